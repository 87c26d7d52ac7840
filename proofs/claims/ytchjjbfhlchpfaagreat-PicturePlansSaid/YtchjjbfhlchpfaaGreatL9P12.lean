/- A part of the proof. -/
import Derived.Test.YtchjjbfhlchpfaaGreatL9P11
set_option linter.unusedSimpArgs false
set_option linter.unusedVariables false
section
namespace Go.Ab
open Go.Proofs
attribute [local congr] ACall.congr gd.congr Nx.congr
set_option maxRecDepth 10000
set_option maxHeartbeats 4000000
theorem nK {l:List Pt} {k:Nat} (h:k+1<l.length):(ee l).getD k ((0,0),(0,0))=(l.getD k (0,0),l.getD (k+1) (0,0)):=by
 simp only [ee,DI]
 rw [List.getD_eq_getElem?_getD,List.getElem?_map,List.getElem?_range (by omega)];rfl
theorem fP (a b c:Pt):Spec Tryz.prog 106 (Args [eP a,eP b,eP c]) [] (eB (pJ a b c)) []:=by
 rw [← E6];exact aQ a b c
theorem wh (l:List Pt) (p:Pt) (hl:l.length≤1000000):Spec Tryz.prog 54 (Args [.d (sP l),eP p]) [] (eB (GS l p)) []:=by
 have ij:(ee l).length=l.length - 1:=dK
 (refine Spec.hd (C:=T.cfg [] []) (rs:= [.t 4]) (T.ai _ _) Tryz.func54 rfl rfl Tryz.ntmps54 Tryz.results54 (by simp [AObj.isNest]) (by simp [AObj.isNest]) (by kernel_rfl) T.mixed fun X hX hP hC aG b9=> ?_)
 repeat' (first|refine Rn.p ?_|(with_reducible apply And.intro)|((first|(refine hK _ ?_;clear hK K)|with_reducible intro K hK|refine Rs.p ?_|((with_reducible first|apply oP|apply oQ);exact rfl)|refine aa hX hC hP (fP (l.getD k (0,0)) (l.getD (k+1) (0,0)) p) rfl rfl rfl (by simp only [go_sem,simprocAttr]) rfl ?_);try simp only [go_sem,simprocAttr])|((with_reducible refine oD ?_ ?_);kernel_rfl)|((with_reducible intro h);try simp only [go_sem,simprocAttr] at h)|omega|intro h)
 refine ag (fun k:Nat=>k≤(ee l).length∧((ee l).take k).any (fun q=>pJ q.1 q.2 p)=false) (fun k=>⟨[(0, .d (sP l)),(3, .ptr 3 0),(5,eN k)], [(3, .box [eN p.1,eN p.2])]⟩) (fun k=>(ee l).length - k) 0 (by simp) ?_ ?_
 ·(refine Le.of ?_ ?_<;>simp [go_sem,simprocAttr])
 rintro k ⟨hk,hf⟩
 rcases Nat.lt_or_ge (k+1) l.length with hlt|hge
 ·have hb:decide ((k:Int)+1<(l.length:Int))=true:=decide_eq_true (by omega)
  have hg:=nK hlt
  have ht:(k:Int)+1=((k+1:Nat):Int):=rfl
  have htn:((k:Int)+1).toNat=k+1:=by omega
  repeat' (first|refine Rn.p ?_|(with_reducible apply And.intro)|((first|(refine hK _ ?_;clear hK K)|with_reducible intro K hK|refine Rs.p ?_|((with_reducible first|apply oP|apply oQ);exact rfl)|refine aa hX hC hP (fP (l.getD k (0,0)) (l.getD (k+1) (0,0)) p) rfl rfl rfl (by simp only [go_sem,simprocAttr,hb,htn]) rfl ?_);try simp only [go_sem,simprocAttr,hb,htn])|((with_reducible refine oD ?_ ?_);kernel_rfl)|((with_reducible intro h);try simp only [go_sem,simprocAttr,hb,htn] at h)|omega|intro h)
  ·rw [GS,kG (d:=((0,0),(0,0))) (k:=k) (by omega) (by rw [hg];exact h)]
  ·refine ⟨k+1,⟨by omega,gM ((0,0),(0,0)) (by omega) hf (by rw [hg];exact h)⟩, ?_,by omega⟩
   (refine Le.of ?_ ?_<;>simp [go_sem,simprocAttr,hb,htn])
 ·have hb:decide ((k:Int)+1<(l.length:Int))=false:=decide_eq_false (by omega)
  rw [List.take_of_length_le (by omega)] at hf
  repeat' (first|refine Rn.p ?_|(with_reducible apply And.intro)|((first|(refine hK _ ?_;clear hK K)|with_reducible intro K hK|refine Rs.p ?_|((with_reducible first|apply oP|apply oQ);exact rfl)|refine aa hX hC hP (fP (l.getD k (0,0)) (l.getD (k+1) (0,0)) p) rfl rfl rfl (by simp only [go_sem,simprocAttr,hb]) rfl ?_);try simp only [go_sem,simprocAttr,hb])|((with_reducible refine oD ?_ ?_);kernel_rfl)|((with_reducible intro h);try simp only [go_sem,simprocAttr,hb] at h)|omega|intro h)
  exact hf.symm
theorem CQ (p:Pt):decide (bw p)= !kN p:=by rw [uh,Bool.not_not]
theorem nL (p:Pt):Spec Tryz.prog 105 (Args [eP p]) [] (eB (!kN p)) []:=by
 rw [← CQ];exact jT p
theorem kR (d:Dr) (hp:d.pts.length≤1000) (hls:d.ls.length≤1000) (mL:∀l∈d.ls,l.length≤1000):Spec Tryz.prog 53 (Args [eDr d]) [] (eB (dU d)) []:=by
 (refine Spec.hd (C:=T.cfg [] []) (rs:= [.t 2]) (T.ai _ _) Tryz.func53 rfl rfl Tryz.ntmps53 Tryz.results53 (by simp [AObj.isNest]) (by simp [AObj.isNest]) (by kernel_rfl) T.mixed fun X hX hP hC aG b9=> ?_)
 repeat' (first|refine Rn.p ?_|(with_reducible apply And.intro)|((first|(refine hK _ ?_;clear hK K)|with_reducible intro K hK|refine Rs.p ?_|((with_reducible first|apply oP|apply oQ);exact rfl));try simp only [go_sem,simprocAttr])|((with_reducible refine oD ?_ ?_);kernel_rfl)|((with_reducible intro h);try simp only [go_sem,simprocAttr] at h)|omega|intro h)
 refine ag (fun k:Nat=>k≤d.pts.length∧(d.pts.take k).any kN=false) (fun k=>⟨[(1, .ptr 1 0),(3,eN k)], [(1, .box [.d (sP d.pts), .d (sLn d.ls)])]⟩) (fun k=>d.pts.length - k) 0 (by simp) ?_ ?_
 ·(refine Le.of ?_ ?_<;>simp [go_sem,simprocAttr])
 rintro k ⟨hk,hf⟩
 rcases Nat.lt_or_ge k d.pts.length with hlt|hge
 ·have hb:decide ((k:Int)<(d.pts.length:Int))=true:=decide_eq_true (by omega)
  repeat' (first|refine Rn.p ?_|(with_reducible apply And.intro)|((first|(refine hK _ ?_;clear hK K)|with_reducible intro K hK|refine Rs.p ?_|((with_reducible first|apply oP|apply oQ);exact rfl)|refine aa hX hC hP (nL (d.pts.getD k (0,0))) rfl rfl rfl (by simp only [go_sem,simprocAttr,hb]) rfl ?_);try simp only [go_sem,simprocAttr,hb])|((with_reducible refine oD ?_ ?_);kernel_rfl)|((with_reducible intro h);try simp only [go_sem,simprocAttr,hb] at h)|omega|intro h)
  ·rw [dU,kG (d:=(0,0)) (k:=k) hlt h];rfl
  ·refine ⟨k+1,⟨by omega,gM (0,0) hlt hf h⟩, ?_,by omega⟩
   (refine Le.of ?_ ?_<;>simp [go_sem,simprocAttr,hb])
 ·have hb:decide ((k:Int)<(d.pts.length:Int))=false:=decide_eq_false (by omega)
  rw [List.take_of_length_le hge] at hf
  repeat' (first|refine Rn.p ?_|(with_reducible apply And.intro)|((first|(refine hK _ ?_;clear hK K)|with_reducible intro K hK|refine Rs.p ?_|((with_reducible first|apply oP|apply oQ);exact rfl));try simp only [go_sem,simprocAttr,hb])|((with_reducible refine oD ?_ ?_);kernel_rfl)|((with_reducible intro h);try simp only [go_sem,simprocAttr,hb] at h)|omega|intro h)
  refine ag (fun k:Nat=>k≤d.ls.length∧(d.ls.take k).any gV=false) (fun k=>⟨[(1, .ptr 1 0),(4,eN k)], [(1, .box [.d (sP d.pts), .d (sLn d.ls)])]⟩) (fun k=>d.ls.length - k) 0 (by simp) ?_ ?_
  ·(refine Le.of ?_ ?_<;>simp [go_sem,simprocAttr,hb])
  clear hk hge hb
  rintro k ⟨hk,FZ⟩
  rcases Nat.lt_or_ge k d.ls.length with hlt|hge
  ·have hb:decide ((k:Int)<(d.ls.length:Int))=true:=decide_eq_true (by omega)
   obtain ⟨l,hl⟩:∃l,l=d.ls.getD k []:=⟨_,rfl⟩
   have hlen:l.length≤1000:=mL l (by rw [hl];exact bf hlt)
   have hno:gV l=true→dU d=false:=fun hb=>by
    rw [dU,kG (xs:=d.ls) (d:= []) (k:=k) hlt (by rw [← hl];exact hb),Bool.not_true,Bool.and_false]
   repeat' (first|refine Rn.p ?_|(with_reducible apply And.intro)|((first|(refine hK _ ?_;clear hK K)|with_reducible intro K hK|refine Rs.p ?_|((with_reducible first|apply oP|apply oQ);exact rfl));try simp only [go_sem,simprocAttr,hb, ← hl])|((with_reducible refine oD ?_ ?_);kernel_rfl)|((with_reducible intro h);try simp only [go_sem,simprocAttr,hb, ← hl] at h)|omega|intro h)
   ·refine (hno ?_).symm
    simp only [gV,decide_eq_true (show 8<l.length by omega),Bool.or_true,Bool.true_or]
   ·refine ag (fun j:Nat=>j≤l.length∧(l.take j).any kN=false) (fun j=>⟨[(1, .ptr 1 0),(4,eN k),(5,eN j)], [(1, .box [.d (sP d.pts), .d (sLn d.ls)])]⟩) (fun j=>l.length - j) 0 (by simp) ?_ ?_
    ·(refine Le.of ?_ ?_<;>simp [go_sem,simprocAttr,hb, ← hl])
    rintro j ⟨hj,K0⟩
    rcases Nat.lt_or_ge j l.length with hjl|Jm
    ·have ez:decide ((j:Int)<(l.length:Int))=true:=decide_eq_true (by omega)
     repeat' (first|refine Rn.p ?_|(with_reducible apply And.intro)|((first|(refine hK _ ?_;clear hK K)|with_reducible intro K hK|refine Rs.p ?_|((with_reducible first|apply oP|apply oQ);exact rfl)|refine aa hX hC hP (nL (l.getD j (0,0))) rfl rfl rfl (by simp only [go_sem,simprocAttr, ← hl,ez]) rfl ?_);try simp only [go_sem,simprocAttr, ← hl,ez])|((with_reducible refine oD ?_ ?_);kernel_rfl)|((with_reducible intro h);try simp only [go_sem,simprocAttr, ← hl,ez] at h)|omega|intro h)
     ·refine (hno ?_).symm
      rw [gV,kG (d:=(0,0)) (k:=j) hjl h,Bool.or_true]
     ·refine ⟨j+1,⟨by omega,gM (0,0) hjl K0 h⟩, ?_,by omega⟩
      (refine Le.of ?_ ?_<;>simp [go_sem,simprocAttr, ← hl,ez])
    ·have ez:decide ((j:Int)<(l.length:Int))=false:=decide_eq_false (by omega)
     rw [List.take_of_length_le Jm] at K0
     have Er:gV l=false:=by
      simp only [gV,decide_eq_false (show ¬l.length<2 by omega),decide_eq_false (show ¬8<l.length by omega),K0,Bool.or_false]
     repeat' (first|refine Rn.p ?_|(with_reducible apply And.intro)|((first|(refine hK _ ?_;clear hK K)|with_reducible intro K hK|refine Rs.p ?_|((with_reducible first|apply oP|apply oQ);exact rfl));try simp only [go_sem,simprocAttr, ← hl,ez])|((with_reducible refine oD ?_ ?_);kernel_rfl)|((with_reducible intro h);try simp only [go_sem,simprocAttr, ← hl,ez] at h)|omega|intro h)
     refine ⟨k+1,⟨by omega,gM [] hlt FZ (by rw [← hl];exact Er)⟩, ?_,by omega⟩
     (refine Le.of ?_ ?_<;>simp [go_sem,simprocAttr, ← hl,ez])
   ·refine (hno ?_).symm
    simp only [gV,decide_eq_true (show l.length<2 by omega),Bool.true_or]
  ·have hb:decide ((k:Int)<(d.ls.length:Int))=false:=decide_eq_false (by omega)
   rw [List.take_of_length_le hge] at FZ
   repeat' (first|refine Rn.p ?_|(with_reducible apply And.intro)|((first|(refine hK _ ?_;clear hK K)|with_reducible intro K hK|refine Rs.p ?_|((with_reducible first|apply oP|apply oQ);exact rfl));try simp only [go_sem,simprocAttr,hb])|((with_reducible refine oD ?_ ?_);kernel_rfl)|((with_reducible intro h);try simp only [go_sem,simprocAttr,hb] at h)|omega|intro h)
   rw [dU,hf,FZ];rfl
def uB (g:Gr) (d:Dr) (i k:Nat) (a b:Pc) (m:Nat):Bool:=(List.range m).any fun x=>(decide ((g.es.getD i (0,0)).1=(x:Int))||decide ((g.es.getD i (0,0)).2=(x:Int)))&&(decide ((g.es.getD k (0,0)).1=(x:Int))||decide ((g.es.getD k (0,0)).2=(x:Int)))&&pJ a.1 a.2 (d.pts.getD x (0,0))&&pJ b.1 b.2 (d.pts.getD x (0,0))
theorem AA {g:Gr} {d:Dr} {i k:Nat} {a b:Pc} {m:Nat} :uB g d i k a b (m+1)=(uB g d i k a b m||((decide ((g.es.getD i (0,0)).1=(m:Int))||decide ((g.es.getD i (0,0)).2=(m:Int)))&&(decide ((g.es.getD k (0,0)).1=(m:Int))||decide ((g.es.getD k (0,0)).2=(m:Int)))&&pJ a.1 a.2 (d.pts.getD m (0,0))&&pJ b.1 b.2 (d.pts.getD m (0,0)))):=by
 simp [uB,List.range_succ]
theorem CR {g:Gr} {d:Dr} (hD:pK g d) {i k:Nat} (hi:i<g.es.length) (a b:Pc):uB g d i k a b g.n.toNat=(fD g d i k).any fun p=>pJ a.1 a.2 p&&pJ b.1 b.2 p:=by
 obtain ⟨⟨Ct,rZ⟩,vi,qh⟩:=dX hD.may hi
 rw [Bool.eq_iff_iff]
 simp only [uB,List.any_eq_true,List.mem_range,Bool.and_eq_true,Bool.or_eq_true,decide_eq_true_eq,fD,ou,List.mem_map,List.mem_filter,Ep]
 constructor
 ·rintro ⟨x,hx,⟨⟨h1,h2⟩,h3⟩,h4⟩
  refine ⟨_,⟨(x:Int),⟨by simp only [List.take_succ_cons,List.take_zero,List.mem_cons,List.not_mem_nil,or_false];omega,by omega⟩,by rw [Int.toNat_natCast]⟩,h3,h4⟩
 ·rintro ⟨p,⟨x,⟨h1,h2⟩,rfl⟩,h3,h4⟩
  simp only [List.take_succ_cons,List.take_zero,List.mem_cons,List.not_mem_nil,or_false] at h1
  refine ⟨x.toNat,by omega,⟨⟨by omega,by omega⟩,h3⟩,h4⟩
theorem wj (a b c d:Pt):0≤fh a b c d∧fh a b c d≤2:=by
 unfold fh
 split
 ·split
  ·omega
  ·split<;>omega
 ·omega
theorem sy (a b c d:Pt):Spec Tryz.prog 107 (Args [eP a,eP b,eP c,eP d]) [] (eN (fh a b c d)) []:=by
 rw [← zg];exact uo a b c d
def qX (g:Gr) (d:Dr) (i k:Nat):Bool:= !(ee (d.ls.getD i [])).all fun a=>(ee (d.ls.getD k [])).all fun b=> !fm (fD g d i k) a b
theorem sC (g:Gr) (d:Dr) (hD:pK g d) (i k:Nat) (hi:i<g.es.length) (hk:k<g.es.length):Spec Tryz.prog 55 (Args [eG g,eDr d,eN i,eN k]) [] (eB (qX g d i k)) []:=by
 have hn:=bL hD.may
 have hnp:=hD.np
 have hnl:=hD.nl
 obtain ⟨li,qY⟩:∃l,l=d.ls.getD i []:=⟨_,rfl⟩
 obtain ⟨lk,hlk⟩:∃l,l=d.ls.getD k []:=⟨_,rfl⟩
 have hi2:=hD.line hi
 have hk2:=hD.line hk
 rw [← qY] at hi2
 rw [← hlk] at hk2
 have hpi:(ee li).length=li.length - 1:=dK
 have hpk:(ee lk).length=lk.length - 1:=dK
 have hB:qX g d i k= !(ee li).all fun a=>(ee lk).all fun b=> !fm (fD g d i k) a b:=by rw [qX, ← qY, ← hlk]
 rw [hB]
 (refine Spec.hd (C:=T.cfg [] []) (rs:= [.t 8]) (T.ai _ _) Tryz.func55 rfl rfl Tryz.ntmps55 Tryz.results55 (by simp [AObj.isNest]) (by simp [AObj.isNest]) (by kernel_rfl) T.mixed fun X hX hP hC aG b9=> ?_)
 repeat' (first|refine Rn.p ?_|(with_reducible apply And.intro)|((first|(refine hK _ ?_;clear hK K)|with_reducible intro K hK|refine Rs.p ?_|((with_reducible first|apply oP|apply oQ);exact rfl));try simp only [go_sem,simprocAttr])|((with_reducible refine oD ?_ ?_);kernel_rfl)|((with_reducible intro h);try simp only [go_sem,simprocAttr] at h)|omega|intro h)
 refine ag (fun s:Nat=>s≤(ee li).length∧((ee li).take s).all (fun a=>(ee lk).all fun b=> !fm (fD g d i k) a b)=true) (fun s=>⟨[(2,eN i),(3,eN k),(4, .ptr 4 0),(5, .ptr 5 0),(9, .ptr 9 0),(10, .ptr 10 0),(11,eN s)], [(4, .box [eN g.n, .d (sE g.es)]),(5, .box [.d (sP d.pts), .d (sLn d.ls)]),(9, .box [eN (g.es.getD i (0,0)).1,eN (g.es.getD i (0,0)).2]),(10, .box [eN (g.es.getD k (0,0)).1,eN (g.es.getD k (0,0)).2])]⟩) (fun s=>(ee li).length - s) 0 (by simp) ?_ ?_
 ·(refine Le.of ?_ ?_<;>simp [go_sem,simprocAttr])
 rintro s ⟨hs,E8⟩
 rcases Nat.lt_or_ge (s+1) li.length with zV|GI
 ·have bC:decide ((s:Int)+1<(li.length:Int))=true:=decide_eq_true (by omega)
  have K5:=nK zV
  have htn:((s:Int)+1).toNat=s+1:=by omega
  repeat' (first|refine Rn.p ?_|(with_reducible apply And.intro)|((first|(refine hK _ ?_;clear hK K)|with_reducible intro K hK|refine Rs.p ?_|((with_reducible first|apply oP|apply oQ);exact rfl));try simp only [go_sem,simprocAttr, ← qY, ← hlk,bC])|((with_reducible refine oD ?_ ?_);kernel_rfl)|((with_reducible intro h);try simp only [go_sem,simprocAttr, ← qY, ← hlk,bC] at h)|omega|intro h)
  refine ag (fun t:Nat=>t≤(ee lk).length∧((ee lk).take t).all (fun b=> !fm (fD g d i k) (li.getD s (0,0),li.getD (s+1) (0,0)) b)=true) (fun t=>⟨[(2,eN i),(3,eN k),(4, .ptr 4 0),(5, .ptr 5 0),(9, .ptr 9 0),(10, .ptr 10 0),(11,eN s),(12,eN t)], [(4, .box [eN g.n, .d (sE g.es)]),(5, .box [.d (sP d.pts), .d (sLn d.ls)]),(9, .box [eN (g.es.getD i (0,0)).1,eN (g.es.getD i (0,0)).2]),(10, .box [eN (g.es.getD k (0,0)).1,eN (g.es.getD k (0,0)).2])]⟩) (fun t=>(ee lk).length - t) 0 (by simp) ?_ ?_
  ·(refine Le.of ?_ ?_<;>simp [go_sem,simprocAttr, ← qY, ← hlk,bC])
  rintro t ⟨ht,E9⟩
  rcases Nat.lt_or_ge (t+1) lk.length with lS|Md
  ·have bn:decide ((t:Int)+1<(lk.length:Int))=true:=decide_eq_true (by omega)
   have K6:=nK lS
   have CS:((t:Int)+1).toNat=t+1:=by omega
   obtain ⟨n,Fa⟩:∃n,n=fh (li.getD s (0,0)) (li.getD (s+1) (0,0)) (lk.getD t (0,0)) (lk.getD (t+1) (0,0)):=⟨_,rfl⟩
   have GU:=wj (li.getD s (0,0)) (li.getD (s+1) (0,0)) (lk.getD t (0,0)) (lk.getD (t+1) (0,0))
   rw [← Fa] at GU
   have mo:fm (fD g d i k) (li.getD s (0,0),li.getD (s+1) (0,0)) (lk.getD t (0,0),lk.getD (t+1) (0,0))=(decide (1<n)||(decide (n=1)&& !uB g d i k (li.getD s (0,0),li.getD (s+1) (0,0)) (lk.getD t (0,0),lk.getD (t+1) (0,0)) g.n.toNat)):=by
    rw [CR hD hi,Fa];rfl
   have Er:fm (fD g d i k) (li.getD s (0,0),li.getD (s+1) (0,0)) (lk.getD t (0,0),lk.getD (t+1) (0,0))=false→((ee lk).take (t+1)).all (fun b=> !fm (fD g d i k) (li.getD s (0,0),li.getD (s+1) (0,0)) b)=true:=fun hb=>
    nJ ((0,0),(0,0)) (by omega) E9 (by rw [K6,hb];rfl)
   have hno:fm (fD g d i k) (li.getD s (0,0),li.getD (s+1) (0,0)) (lk.getD t (0,0),lk.getD (t+1) (0,0))=true→((ee li).all fun a=>(ee lk).all fun b=> !fm (fD g d i k) a b)=false:=fun hb=>
    iH (d:=((0,0),(0,0))) (k:=s) (by omega) (by rw [K5];exact iH (d:=((0,0),(0,0))) (k:=t) (by omega) (by rw [K6,hb];rfl))
   repeat' (first|refine Rn.p ?_|(with_reducible apply And.intro)|((first|(refine hK _ ?_;clear hK K)|with_reducible intro K hK|refine Rs.p ?_|((with_reducible first|apply oP|apply oQ);exact rfl)|refine aa hX hC hP (sy (li.getD s (0,0)) (li.getD (s+1) (0,0)) (lk.getD t (0,0)) (lk.getD (t+1) (0,0))) rfl rfl rfl (by simp only [go_sem,simprocAttr, ← qY, ← hlk,bn,htn,CS, ← Fa]) rfl ?_);try simp only [go_sem,simprocAttr, ← qY, ← hlk,bn,htn,CS, ← Fa])|((with_reducible refine oD ?_ ?_);kernel_rfl)|((with_reducible intro h);try simp only [go_sem,simprocAttr, ← qY, ← hlk,bn,htn,CS, ← Fa] at h)|omega|intro h)
   ·refine ⟨t+1,⟨by omega,Er (by rw [mo,decide_eq_false (by omega),decide_eq_false (by omega)];rfl)⟩, ?_,by omega⟩
    (refine Le.of ?_ ?_<;>simp [go_sem,simprocAttr, ← qY, ← hlk,bn,htn,CS, ← Fa])
   ·obtain ⟨en,K7⟩:∃e,e=uB g d i k (li.getD s (0,0),li.getD (s+1) (0,0)) (lk.getD t (0,0),lk.getD (t+1) (0,0)) g.n.toNat:=⟨_,rfl⟩
    rw [← K7] at mo
    refine ag (fun m:Nat=>m≤g.n.toNat) (fun m=>⟨[(2,eN i),(3,eN k),(4, .ptr 4 0),(5, .ptr 5 0),(9, .ptr 9 0),(10, .ptr 10 0),(11,eN s),(12,eN t),(13, .ptr 13 0),(14, .ptr 14 0),(15, .ptr 15 0),(16, .ptr 16 0),(17,eN n),(18,eB (uB g d i k (li.getD s (0,0),li.getD (s+1) (0,0)) (lk.getD t (0,0),lk.getD (t+1) (0,0)) m)),(19,eN m)], [(4, .box [eN g.n, .d (sE g.es)]),(5, .box [.d (sP d.pts), .d (sLn d.ls)]),(9, .box [eN (g.es.getD i (0,0)).1,eN (g.es.getD i (0,0)).2]),(10, .box [eN (g.es.getD k (0,0)).1,eN (g.es.getD k (0,0)).2]),(13, .box [eN (li.getD s (0,0)).1,eN (li.getD s (0,0)).2]),(14, .box [eN (li.getD (s+1) (0,0)).1,eN (li.getD (s+1) (0,0)).2]),(15, .box [eN (lk.getD t (0,0)).1,eN (lk.getD t (0,0)).2]),(16, .box [eN (lk.getD (t+1) (0,0)).1,eN (lk.getD (t+1) (0,0)).2])]⟩) (fun m=>g.n.toNat - m) 0 (by simp) ?_ ?_
    ·refine Le.of ?_ ?_<;>simp [go_sem,simprocAttr, ← qY, ← hlk,bn,htn,CS, ← Fa,uB]
    rintro m hm
    rcases Nat.lt_or_ge m g.n.toNat with hml|O7
    ·have ez:decide ((m:Int)<g.n)=true:=decide_eq_true (by omega)
     have iE:=AA (g:=g) (d:=d) (i:=i) (k:=k) (a:=(li.getD s (0,0),li.getD (s+1) (0,0))) (b:=(lk.getD t (0,0),lk.getD (t+1) (0,0))) (m:=m)
     repeat' (first|refine Rn.p ?_|(with_reducible apply And.intro)|((first|(refine hK _ ?_;clear hK K)|with_reducible intro K hK|refine Rs.p ?_|((with_reducible first|apply oP|apply oQ);exact rfl)|refine aa hX hC hP (fP (li.getD s (0,0)) (li.getD (s+1) (0,0)) (d.pts.getD m (0,0))) rfl rfl rfl (by simp only [go_sem,simprocAttr, ← qY, ← hlk,ez]) rfl ?_|refine aa hX hC hP (fP (lk.getD t (0,0)) (lk.getD (t+1) (0,0)) (d.pts.getD m (0,0))) rfl rfl rfl (by simp only [go_sem,simprocAttr, ← qY, ← hlk,ez]) rfl ?_);try simp only [go_sem,simprocAttr, ← qY, ← hlk,ez])|((with_reducible refine oD ?_ ?_);kernel_rfl)|((with_reducible intro h);try simp only [go_sem,simprocAttr, ← qY, ← hlk,ez] at h)|omega|intro h)
     all_goals (
      refine ⟨m+1,by omega, ?_,by omega⟩
      rw [iE]
      clear qY hlk hB K5 K6 Er hno mo K7 Fa iE E8 E9 bC bn ez
      simp only [*,decide_true,decide_false,Bool.true_or,Bool.or_true,Bool.false_or,Bool.or_false,Bool.true_and,Bool.false_and,Bool.and_true,Bool.and_false]
      refine Le.of ?_ ?_<;>simp [go_sem,simprocAttr])
    ·have ez:decide ((m:Int)<g.n)=false:=decide_eq_false (by omega)
     obtain rfl:m=g.n.toNat:=by omega
     rw [← K7]
     repeat' (first|refine Rn.p ?_|(with_reducible apply And.intro)|((first|(refine hK _ ?_;clear hK K)|with_reducible intro K hK|refine Rs.p ?_|((with_reducible first|apply oP|apply oQ);exact rfl));try simp only [go_sem,simprocAttr, ← qY, ← hlk,ez])|((with_reducible refine oD ?_ ?_);kernel_rfl)|((with_reducible intro h);try simp only [go_sem,simprocAttr, ← qY, ← hlk,ez] at h)|omega|intro h)
     all_goals first
      |(have DJ:=hno (by
         rw [mo];simp only [decide_eq_true_eq,Bool.or_eq_true,Bool.and_eq_true,Bool.not_eq_true']
         first|exact .inl (by omega)|exact .inr ⟨by omega,by assumption⟩)
        rw [DJ];rfl)
      |(refine ⟨t+1,⟨by omega,Er (by
         rw [mo];simp only [Bool.or_eq_false_iff,decide_eq_false_iff_not,Bool.and_eq_false_iff,Bool.not_eq_false']
         exact ⟨by omega, .inr (by assumption)⟩)⟩, ?_,by omega⟩
        (refine Le.of ?_ ?_<;>simp [go_sem,simprocAttr, ← qY, ← hlk,ez]))
  ·have bn:decide ((t:Int)+1<(lk.length:Int))=false:=decide_eq_false (by omega)
   rw [List.take_of_length_le (by omega)] at E9
   repeat' (first|refine Rn.p ?_|(with_reducible apply And.intro)|((first|(refine hK _ ?_;clear hK K)|with_reducible intro K hK|refine Rs.p ?_|((with_reducible first|apply oP|apply oQ);exact rfl));try simp only [go_sem,simprocAttr, ← qY, ← hlk,bn])|((with_reducible refine oD ?_ ?_);kernel_rfl)|((with_reducible intro h);try simp only [go_sem,simprocAttr, ← qY, ← hlk,bn] at h)|omega|intro h)
   refine ⟨s+1,⟨by omega,nJ ((0,0),(0,0)) (by omega) E8 (by rw [K5];exact E9)⟩, ?_,by omega⟩
   (refine Le.of ?_ ?_<;>simp [go_sem,simprocAttr, ← qY, ← hlk,bn])
 ·have bC:decide ((s:Int)+1<(li.length:Int))=false:=decide_eq_false (by omega)
  rw [List.take_of_length_le (by omega)] at E8
  repeat' (first|refine Rn.p ?_|(with_reducible apply And.intro)|((first|(refine hK _ ?_;clear hK K)|with_reducible intro K hK|refine Rs.p ?_|((with_reducible first|apply oP|apply oQ);exact rfl));try simp only [go_sem,simprocAttr, ← qY, ← hlk,bC])|((with_reducible refine oD ?_ ?_);kernel_rfl)|((with_reducible intro h);try simp only [go_sem,simprocAttr, ← qY, ← hlk,bC] at h)|omega|intro h)
  rw [E8];rfl
end Go.Ab
end
section
namespace Go.Ab
open Go.Proofs
attribute [local congr] ACall.congr gd.congr Nx.congr
set_option maxRecDepth 10000
set_option maxHeartbeats 8000000
theorem jW (g:Gr) (hl:g.es.length≤1000):Spec Tryz.prog 52 (Args [eG g]) [] (eB (decide ((dR g).1=0))) []:=by
 rw [F5]
 (refine Spec.hd (C:=T.cfg [] []) (rs:= [.t 2]) (T.ai _ _) Tryz.func52 rfl rfl Tryz.ntmps52 Tryz.results52 (by simp [AObj.isNest]) (by simp [AObj.isNest]) (by kernel_rfl) T.mixed fun X hX hP hC aG b9=> ?_)
 repeat' (first|refine Rn.p ?_|(with_reducible apply And.intro)|((first|(refine hK _ ?_;clear hK K)|with_reducible intro K hK|refine Rs.p ?_|((with_reducible first|apply oP|apply oQ);exact rfl)|refine aa hX hC hP (su g hl) rfl rfl rfl (by simp only [go_sem,simprocAttr]) rfl ?_);try simp only [go_sem,simprocAttr])|((with_reducible refine oD ?_ ?_);kernel_rfl)|((with_reducible intro h);try simp only [go_sem,simprocAttr] at h)|omega|intro h)
theorem eV {n k:Nat} {holds:Nat→Bool} (hk:k<n) (h:∀j,j<k→holds j=true) (hb:holds k=false):bt n holds=k:=by
 refine bQ (d:=0) (by simpa using hk) (fun j hj=> ?_) ?_
 ·rw [bX (by omega),h j hj];rfl
 ·rw [bX hk,hb];rfl
theorem fQ {n:Nat} {holds:Nat→Bool} (h:∀j,j<n→holds j=true):bt n holds= -1:=by
 refine bq 0 fun j hj=> ?_
 rw [List.length_range] at hj
 rw [bX hj,h j hj];rfl
theorem ow {p:Nat→Prop} {k:Nat} (h:∀j,j<k→p j) (hk:p k):∀j,j<k+1→p j:=fun j hj=>by
 by_cases hjk:j=k
 ·subst hjk;exact hk
 ·exact h j (by omega)
theorem pL (g:Gr) (d:Dr) (tI:g.es.length≤1000) (hp:d.pts.length≤1000) (hls:d.ls.length≤1000) (mL:∀l∈d.ls,l.length≤1000):
 Spec Tryz.prog 17 (Args [eG g,eDr d]) [] (.tup [eN (fF g d).1,eN (fF g d).2]) []:=by
 (refine Spec.hd (C:=T.cfg [] []) (rs:= [.t 4, .t 5]) (T.ai _ _) Tryz.func17 rfl rfl Tryz.ntmps17 Tryz.results17 (by simp [AObj.isNest]) (by simp [AObj.isNest]) (by kernel_rfl) T.mixed fun X hX hP hC aG b9=> ?_)
 cases hfit:fV g d with
 |false=>
  have hc:fF g d=(1,0):=by rw [fF,if_pos hfit]
  have hneg:¬((dR g).1=0∧(d.pts.length:Int)=g.n∧d.ls.length=g.es.length):=fun ⟨a,b,c⟩=>by simp [fV,a,b,c] at hfit
  repeat' (first|refine Rn.p ?_|(with_reducible apply And.intro)|((first|(refine hK _ ?_;clear hK K)|with_reducible intro K hK|refine Rs.p ?_|((with_reducible first|apply oP|apply oQ);exact rfl)|refine aa hX hC hP (jW g tI) rfl rfl rfl (by simp only [go_sem,simprocAttr,hc]) rfl ?_);try simp only [go_sem,simprocAttr,hc])|((with_reducible refine oD ?_ ?_);kernel_rfl)|((with_reducible intro h);try simp only [go_sem,simprocAttr,hc] at h)|omega|intro h)
 |true=>
  simp only [fV,Bool.and_eq_true,decide_eq_true_eq] at hfit
  obtain ⟨⟨h0,hnp⟩,hnl⟩:=hfit
  have hfit:fV g d=true:=by simp only [fV,h0,hnp,hnl,decide_true,Bool.and_self]
  have hm:=wg h0
  have hn:=bL hm
  cases hr:dU d with
  |false=>
   have hc:fF g d=(2,0):=by rw [fF,if_neg (by rw [hfit];simp),if_pos hr]
   repeat' (first|refine Rn.p ?_|(with_reducible apply And.intro)|((first|(refine hK _ ?_;clear hK K)|with_reducible intro K hK|refine Rs.p ?_|((with_reducible first|apply oP|apply oQ);exact rfl)|refine aa hX hC hP (jW g tI) rfl rfl rfl (by simp only [go_sem,simprocAttr,hc,h0,hnl,hr,hnp]) rfl ?_|refine aa hX hC hP (kR d hp hls mL) rfl rfl rfl (by simp only [go_sem,simprocAttr,hc,h0,hnl,hr,hnp]) rfl ?_);try simp only [go_sem,simprocAttr,hc,h0,hnl,hr,hnp])|((with_reducible refine oD ?_ ?_);kernel_rfl)|((with_reducible intro h);try simp only [go_sem,simprocAttr,hc,h0,hnl,hr,hnp] at h)|omega|intro h)
  |true=>
  have hD:pK g d:=⟨hm,hnp,hnl,qW hr⟩
  have hc1:fF g d=if 0≤bt g.es.length (nH g d) then (6,bt g.es.length (nH g d)) else
   if 0≤bt g.es.length (fun i=>fk (d.ls.getD i [])) then (7,bt g.es.length (fun i=>fk (d.ls.getD i []))) else
   if 0≤bt d.pts.length (dL d) then (8,bt d.pts.length (dL d)) else
   if 0≤bt g.es.length (jo g d) then (9,bt g.es.length (jo g d)) else
   if 0≤bt g.es.length (fE g d) then (17,bt g.es.length (fE g d)) else (0,0):=by
   rw [fF,if_neg (by rw [hfit];simp),if_neg (by rw [hr];simp)]
  generalize Nz:fF g d=c at hc1 ⊢
  repeat' (first|refine Rn.p ?_|(with_reducible apply And.intro)|((first|(refine hK _ ?_;clear hK K)|with_reducible intro K hK|refine Rs.p ?_|((with_reducible first|apply oP|apply oQ);exact rfl)|refine aa hX hC hP (jW g tI) rfl rfl rfl (by simp only [go_sem,simprocAttr,h0,hnl,hr,hnp]) rfl ?_|refine aa hX hC hP (kR d hp hls mL) rfl rfl rfl (by simp only [go_sem,simprocAttr,h0,hnl,hr,hnp]) rfl ?_);try simp only [go_sem,simprocAttr,h0,hnl,hr,hnp])|((with_reducible refine oD ?_ ?_);kernel_rfl)|((with_reducible intro h);try simp only [go_sem,simprocAttr,h0,hnl,hr,hnp] at h)|omega|intro h)
  refine ag (fun i:Nat=>i≤g.es.length∧∀j,j<i→nH g d j=true) (fun i=>⟨[(2, .ptr 2 0),(3, .ptr 3 0),(6,eN i)], [(2, .box [eN g.n, .d (sE g.es)]),(3, .box [.d (sP d.pts), .d (sLn d.ls)])]⟩) (fun i=>g.es.length - i) 0 (by simp) ?_ ?_
  ·(refine Le.of ?_ ?_<;>simp [go_sem,simprocAttr,h0,hnl,hr,hnp])
  rintro i ⟨hi,h6⟩
  rcases Nat.lt_or_ge i g.es.length with hil|Ei
  ·have hb:decide ((i:Int)<(g.es.length:Int))=true:=decide_eq_true (by omega)
   obtain ⟨⟨Ct,rZ⟩,vi,qh⟩:=dX hm hil
   obtain ⟨h2,h8⟩:=hD.line hil
   have htn:(((d.ls.getD i []).length:Int) - 1).toNat=(d.ls.getD i []).length - 1:=by omega
   have hE:nH g d i=(decide ((d.ls.getD i []).getD 0 (0,0)=d.pts.getD (g.es.getD i (0,0)).1.toNat (0,0))&&decide ((d.ls.getD i []).getD ((d.ls.getD i []).length - 1) (0,0)=d.pts.getD (g.es.getD i (0,0)).2.toNat (0,0))):=rfl
   repeat' (first|refine Rn.p ?_|(with_reducible apply And.intro)|((first|(refine hK _ ?_;clear hK K)|with_reducible intro K hK|refine Rs.p ?_|((with_reducible first|apply oP|apply oQ);exact rfl));try simp only [go_sem,simprocAttr,hb,htn,iw])|((with_reducible refine oD ?_ ?_);kernel_rfl)|((with_reducible intro h);try simp only [go_sem,simprocAttr,hb,htn,iw] at h)|omega|intro h)
   all_goals first
    |(have gW:nH g d i=false:=(by rw [hE];simp only [Bool.and_eq_false_iff,decide_eq_false_iff_not];first|exact .inl (by assumption)|exact .inr (by assumption))
      have f6:=eV hil h6 gW
      have nj:c=(6,(i:Int)):=(by rw [hc1,if_pos (by omega),f6])
      rw [nj])
    |(refine ⟨i+1,⟨by omega,ow h6 (by rw [hE];simp only [Bool.and_eq_true,decide_eq_true_eq];exact ⟨by assumption,by assumption⟩)⟩, ?_,by omega⟩
      (refine Le.of ?_ ?_<;>simp [go_sem,simprocAttr,hb,htn,iw]))
  ·have hb:decide ((i:Int)<(g.es.length:Int))=false:=decide_eq_false (by omega)
   obtain rfl:i=g.es.length:=by omega
   have f6:=fQ h6
   rw [if_neg (by omega)] at hc1
   repeat' (first|refine Rn.p ?_|(with_reducible apply And.intro)|((first|(refine hK _ ?_;clear hK K)|with_reducible intro K hK|refine Rs.p ?_|((with_reducible first|apply oP|apply oQ);exact rfl));try simp only [go_sem,simprocAttr,hb])|((with_reducible refine oD ?_ ?_);kernel_rfl)|((with_reducible intro h);try simp only [go_sem,simprocAttr,hb] at h)|omega|intro h)
   clear hb Ei hi
   refine ag (fun i:Nat=>i≤g.es.length∧∀j,j<i→fk (d.ls.getD j [])=true) (fun i=>⟨[(2, .ptr 2 0),(3, .ptr 3 0),(8,eN i)], [(2, .box [eN g.n, .d (sE g.es)]),(3, .box [.d (sP d.pts), .d (sLn d.ls)])]⟩) (fun i=>g.es.length - i) 0 (by simp) ?_ ?_
   ·(refine Le.of ?_ ?_<;>simp [go_sem,simprocAttr])
   rintro i ⟨hi,h7⟩
   rcases Nat.lt_or_ge i g.es.length with hil|Ei
   ·have hb:decide ((i:Int)<(g.es.length:Int))=true:=decide_eq_true (by omega)
    obtain ⟨l,hl⟩:∃l,l=d.ls.getD i []:=⟨_,rfl⟩
    have Me:=hD.line hil
    rw [← hl] at Me
    have ij:(ee l).length=l.length - 1:=dK
    repeat' (first|refine Rn.p ?_|(with_reducible apply And.intro)|((first|(refine hK _ ?_;clear hK K)|with_reducible intro K hK|refine Rs.p ?_|((with_reducible first|apply oP|apply oQ);exact rfl));try simp only [go_sem,simprocAttr,hb, ← hl])|((with_reducible refine oD ?_ ?_);kernel_rfl)|((with_reducible intro h);try simp only [go_sem,simprocAttr,hb, ← hl] at h)|omega|intro h)
    refine ag (fun k:Nat=>k≤(ee l).length∧((ee l).take k).any (fun q=>decide (q.2.2≤q.1.2))=false) (fun k=>⟨[(2, .ptr 2 0),(3, .ptr 3 0),(8,eN i),(9,eN ((k+1:Nat):Int))], [(2, .box [eN g.n, .d (sE g.es)]),(3, .box [.d (sP d.pts), .d (sLn d.ls)])]⟩) (fun k=>(ee l).length - k) 0 (by simp) ?_ ?_
    ·(refine Le.of ?_ ?_<;>simp [go_sem,simprocAttr,hb, ← hl])
    rintro k ⟨hk,hka⟩
    rcases Nat.lt_or_ge (k+1) l.length with b8|DA
    ·have bC:decide (((k+1:Nat):Int)<(l.length:Int))=true:=decide_eq_true (by omega)
     have K8:=nK b8
     have htn:(((k+1:Nat):Int) - 1).toNat=k:=by omega
     repeat' (first|refine Rn.p ?_|(with_reducible apply And.intro)|((first|(refine hK _ ?_;clear hK K)|with_reducible intro K hK|refine Rs.p ?_|((with_reducible first|apply oP|apply oQ);exact rfl));try simp only [go_sem,simprocAttr,bC,htn, ← hl])|((with_reducible refine oD ?_ ?_);kernel_rfl)|((with_reducible intro h);try simp only [go_sem,simprocAttr,bC,htn, ← hl] at h)|omega|intro h)
     ·have gW:fk (d.ls.getD i [])=false:=by
       rw [← hl,fk,kG (d:=((0,0),(0,0))) (k:=k) (by omega) (by rw [K8];exact decide_eq_true h)];rfl
      have f7:=eV (holds:=fun i=>fk (d.ls.getD i [])) hil h7 gW
      have nj:c=(7,(i:Int)):=by rw [hc1,if_pos (by omega),f7]
      rw [nj]
     ·have gW:fk (d.ls.getD i [])=false:=by
       rw [← hl,fk,kG (d:=((0,0),(0,0))) (k:=k) (by omega) (by rw [K8];exact decide_eq_true h)];rfl
      have f7:=eV (holds:=fun i=>fk (d.ls.getD i [])) hil h7 gW
      have nj:c=(7,(i:Int)):=by rw [hc1,if_pos (by omega),f7]
      rw [nj]
     ·refine ⟨k+1,⟨by omega,gM ((0,0),(0,0)) (by omega) hka (by rw [K8];exact decide_eq_false h)⟩, ?_,by omega⟩
      (refine Le.of ?_ ?_<;>simp [go_sem,simprocAttr,bC,htn, ← hl])
    ·have bC:decide (((k+1:Nat):Int)<(l.length:Int))=false:=decide_eq_false (by omega)
     rw [List.take_of_length_le (by omega)] at hka
     repeat' (first|refine Rn.p ?_|(with_reducible apply And.intro)|((first|(refine hK _ ?_;clear hK K)|with_reducible intro K hK|refine Rs.p ?_|((with_reducible first|apply oP|apply oQ);exact rfl));try simp only [go_sem,simprocAttr,bC, ← hl])|((with_reducible refine oD ?_ ?_);kernel_rfl)|((with_reducible intro h);try simp only [go_sem,simprocAttr,bC, ← hl] at h)|omega|intro h)
     refine ⟨i+1,⟨by omega,ow h7 (by rw [← hl,fk,hka];rfl)⟩, ?_,by omega⟩
     (refine Le.of ?_ ?_<;>simp [go_sem,simprocAttr,bC, ← hl])
   ·have hb:decide ((i:Int)<(g.es.length:Int))=false:=decide_eq_false (by omega)
    obtain rfl:i=g.es.length:=by omega
    have f7:=fQ (holds:=fun i=>fk (d.ls.getD i [])) h7
    rw [if_neg (by omega)] at hc1
    repeat' (first|refine Rn.p ?_|(with_reducible apply And.intro)|((first|(refine hK _ ?_;clear hK K)|with_reducible intro K hK|refine Rs.p ?_|((with_reducible first|apply oP|apply oQ);exact rfl));try simp only [go_sem,simprocAttr,hb])|((with_reducible refine oD ?_ ?_);kernel_rfl)|((with_reducible intro h);try simp only [go_sem,simprocAttr,hb] at h)|omega|intro h)
    clear hb Ei hi
    refine ag (fun x:Nat=>x≤d.pts.length∧∀j,j<x→dL d j=true) (fun x=>⟨[(2, .ptr 2 0),(3, .ptr 3 0),(10,eN x)], [(2, .box [eN g.n, .d (sE g.es)]),(3, .box [.d (sP d.pts), .d (sLn d.ls)])]⟩) (fun x=>d.pts.length - x) 0 (by simp) ?_ ?_
    ·(refine Le.of ?_ ?_<;>simp [go_sem,simprocAttr])
    rintro x ⟨hx,h8⟩
    rcases Nat.lt_or_ge x d.pts.length with hxl|Jp
    ·have hb:decide ((x:Int)<g.n)=true:=decide_eq_true (by omega)
     repeat' (first|refine Rn.p ?_|(with_reducible apply And.intro)|((first|(refine hK _ ?_;clear hK K)|with_reducible intro K hK|refine Rs.p ?_|((with_reducible first|apply oP|apply oQ);exact rfl));try simp only [go_sem,simprocAttr,hb])|((with_reducible refine oD ?_ ?_);kernel_rfl)|((with_reducible intro h);try simp only [go_sem,simprocAttr,hb] at h)|omega|intro h)
     refine ag (fun z:Nat=>z≤x∧∀j,j<z→¬d.pts.getD x (0,0)=d.pts.getD j (0,0)) (fun z=>⟨[(2, .ptr 2 0),(3, .ptr 3 0),(10,eN x),(11,eN z)], [(2, .box [eN g.n, .d (sE g.es)]),(3, .box [.d (sP d.pts), .d (sLn d.ls)])]⟩) (fun z=>x - z) 0 (by simp) ?_ ?_
     ·(refine Le.of ?_ ?_<;>simp [go_sem,simprocAttr,hb])
     rintro z ⟨hz,Mf⟩
     rcases Nat.lt_or_ge z x with hzl|O8
     ·have bC:decide ((z:Int)<(x:Int))=true:=decide_eq_true (by omega)
      repeat' (first|refine Rn.p ?_|(with_reducible apply And.intro)|((first|(refine hK _ ?_;clear hK K)|with_reducible intro K hK|refine Rs.p ?_|((with_reducible first|apply oP|apply oQ);exact rfl));try simp only [go_sem,simprocAttr,bC,iw])|((with_reducible refine oD ?_ ?_);kernel_rfl)|((with_reducible intro h);try simp only [go_sem,simprocAttr,bC,iw] at h)|omega|intro h)
      ·have gW:dL d x=false:=by
        have:d.pts.getD x (0,0)∈d.pts.take x:=by
         rw [h,List.mem_iff_getElem?]
         exact ⟨z,by rw [List.getElem?_take,if_pos hzl,List.getD_eq_getElem?_getD,List.getElem?_eq_getElem (by omega)];rfl⟩
        rw [dL,decide_eq_true this];rfl
       have f8:=eV hxl h8 gW
       have nj:c=(8,(x:Int)):=by rw [hc1,if_pos (by omega),f8]
       rw [nj]
      ·have gW:dL d x=false:=by
        have:d.pts.getD x (0,0)∈d.pts.take x:=by
         rw [h,List.mem_iff_getElem?]
         exact ⟨z,by rw [List.getElem?_take,if_pos hzl,List.getD_eq_getElem?_getD,List.getElem?_eq_getElem (by omega)];rfl⟩
        rw [dL,decide_eq_true this];rfl
       have f8:=eV hxl h8 gW
       have nj:c=(8,(x:Int)):=by rw [hc1,if_pos (by omega),f8]
       rw [nj]
      ·refine ⟨z+1,⟨by omega,ow Mf h⟩, ?_,by omega⟩
       (refine Le.of ?_ ?_<;>simp [go_sem,simprocAttr,bC,iw])
     ·have bC:decide ((z:Int)<(x:Int))=false:=decide_eq_false (by omega)
      have Er:dL d x=true:=by
       have:d.pts.getD x (0,0)∉d.pts.take x:=by
        rw [List.mem_iff_getElem?]
        rintro ⟨j,hj⟩
        rw [List.getElem?_take] at hj
        split at hj
        ·exact Mf j (by omega) (by rw [List.getD_eq_getElem?_getD (i:=j),hj];rfl)
        ·cases hj
       rw [dL,decide_eq_false this];rfl
      repeat' (first|refine Rn.p ?_|(with_reducible apply And.intro)|((first|(refine hK _ ?_;clear hK K)|with_reducible intro K hK|refine Rs.p ?_|((with_reducible first|apply oP|apply oQ);exact rfl));try simp only [go_sem,simprocAttr,bC])|((with_reducible refine oD ?_ ?_);kernel_rfl)|((with_reducible intro h);try simp only [go_sem,simprocAttr,bC] at h)|omega|intro h)
      refine ⟨x+1,⟨by omega,ow h8 Er⟩, ?_,by omega⟩
      (refine Le.of ?_ ?_<;>simp [go_sem,simprocAttr,bC])
    ·have hb:decide ((x:Int)<g.n)=false:=decide_eq_false (by omega)
     obtain rfl:x=d.pts.length:=by omega
     have f8:=fQ h8
     rw [if_neg (by omega)] at hc1
     repeat' (first|refine Rn.p ?_|(with_reducible apply And.intro)|((first|(refine hK _ ?_;clear hK K)|with_reducible intro K hK|refine Rs.p ?_|((with_reducible first|apply oP|apply oQ);exact rfl));try simp only [go_sem,simprocAttr,hb])|((with_reducible refine oD ?_ ?_);kernel_rfl)|((with_reducible intro h);try simp only [go_sem,simprocAttr,hb] at h)|omega|intro h)
     clear hb Jp hx
     refine ag (fun i:Nat=>i≤g.es.length∧∀j,j<i→jo g d j=true) (fun i=>⟨[(2, .ptr 2 0),(3, .ptr 3 0),(12,eN i)], [(2, .box [eN g.n, .d (sE g.es)]),(3, .box [.d (sP d.pts), .d (sLn d.ls)])]⟩) (fun i=>g.es.length - i) 0 (by simp) ?_ ?_
     ·(refine Le.of ?_ ?_<;>simp [go_sem,simprocAttr])
     rintro i ⟨hi,h9⟩
     rcases Nat.lt_or_ge i g.es.length with hil|Ei
     ·have hb:decide ((i:Int)<(g.es.length:Int))=true:=decide_eq_true (by omega)
      have Me:=hD.line hil
      have Es:(d.ls.getD i []).length≤1000000:=by omega
      repeat' (first|refine Rn.p ?_|(with_reducible apply And.intro)|((first|(refine hK _ ?_;clear hK K)|with_reducible intro K hK|refine Rs.p ?_|((with_reducible first|apply oP|apply oQ);exact rfl));try simp only [go_sem,simprocAttr,hb])|((with_reducible refine oD ?_ ?_);kernel_rfl)|((with_reducible intro h);try simp only [go_sem,simprocAttr,hb] at h)|omega|intro h)
      refine ag (fun x:Nat=>x≤d.pts.length∧kQ g d i x=true) (fun x=>⟨[(2, .ptr 2 0),(3, .ptr 3 0),(12,eN i),(13,eN x)], [(2, .box [eN g.n, .d (sE g.es)]),(3, .box [.d (sP d.pts), .d (sLn d.ls)])]⟩) (fun x=>d.pts.length - x) 0 (by simp [kQ]) ?_ ?_
      ·(refine Le.of ?_ ?_<;>simp [go_sem,simprocAttr,hb])
      rintro x ⟨hx,Mg⟩
      rcases Nat.lt_or_ge x d.pts.length with hxl|Jp
      ·have bC:decide ((x:Int)<g.n)=true:=decide_eq_true (by omega)
       have iE:=qV (g:=g) (d:=d) (i:=i) (k:=x)
       rw [Mg,Bool.true_and] at iE
       repeat' (first|refine Rn.p ?_|(with_reducible apply And.intro)|((first|(refine hK _ ?_;clear hK K)|with_reducible intro K hK|refine Rs.p ?_|((with_reducible first|apply oP|apply oQ);exact rfl)|refine aa hX hC hP (wh (d.ls.getD i []) (d.pts.getD x (0,0)) Es) rfl rfl rfl (by simp only [go_sem,simprocAttr,bC]) rfl ?_);try simp only [go_sem,simprocAttr,bC])|((with_reducible refine oD ?_ ?_);kernel_rfl)|((with_reducible intro h);try simp only [go_sem,simprocAttr,bC] at h)|omega|intro h)
       any_goals (
        have gW:jo g d i=false:=(by
         rw [jo,kQ]
         refine nI hxl ?_
         simp only [*,decide_false,Bool.or_false,Bool.false_or,Bool.not_true])
        have f9:=eV hil h9 gW
        have nj:c=(9,(i:Int)):=(by rw [hc1,if_pos (by omega),f9])
        rw [nj]
        done)
       all_goals (
        refine ⟨x+1,⟨by omega, ?_⟩, ?_,by omega⟩
        ·rw [iE];simp only [*,decide_true,Bool.true_or,Bool.or_true,Bool.not_false]
        ·(refine Le.of ?_ ?_<;>simp [go_sem,simprocAttr,bC]))
      ·have bC:decide ((x:Int)<g.n)=false:=decide_eq_false (by omega)
       obtain rfl:x=d.pts.length:=by omega
       repeat' (first|refine Rn.p ?_|(with_reducible apply And.intro)|((first|(refine hK _ ?_;clear hK K)|with_reducible intro K hK|refine Rs.p ?_|((with_reducible first|apply oP|apply oQ);exact rfl));try simp only [go_sem,simprocAttr,bC])|((with_reducible refine oD ?_ ?_);kernel_rfl)|((with_reducible intro h);try simp only [go_sem,simprocAttr,bC] at h)|omega|intro h)
       refine ⟨i+1,⟨by omega,ow h9 Mg⟩, ?_,by omega⟩
       (refine Le.of ?_ ?_<;>simp [go_sem,simprocAttr,bC])
     ·have hb:decide ((i:Int)<(g.es.length:Int))=false:=decide_eq_false (by omega)
      obtain rfl:i=g.es.length:=by omega
      have f9:=fQ h9
      rw [if_neg (by omega)] at hc1
      repeat' (first|refine Rn.p ?_|(with_reducible apply And.intro)|((first|(refine hK _ ?_;clear hK K)|with_reducible intro K hK|refine Rs.p ?_|((with_reducible first|apply oP|apply oQ);exact rfl));try simp only [go_sem,simprocAttr,hb])|((with_reducible refine oD ?_ ?_);kernel_rfl)|((with_reducible intro h);try simp only [go_sem,simprocAttr,hb] at h)|omega|intro h)
      clear hb Ei hi
      refine ag (fun i:Nat=>i≤g.es.length∧∀j,j<i→fE g d j=true) (fun i=>⟨[(2, .ptr 2 0),(3, .ptr 3 0),(14,eN i)], [(2, .box [eN g.n, .d (sE g.es)]),(3, .box [.d (sP d.pts), .d (sLn d.ls)])]⟩) (fun i=>g.es.length - i) 0 (by simp) ?_ ?_
      ·(refine Le.of ?_ ?_<;>simp [go_sem,simprocAttr])
      rintro i ⟨hi,Jq⟩
      rcases Nat.lt_or_ge i g.es.length with hil|Ei
      ·have hb:decide ((i:Int)<(g.es.length:Int))=true:=decide_eq_true (by omega)
       repeat' (first|refine Rn.p ?_|(with_reducible apply And.intro)|((first|(refine hK _ ?_;clear hK K)|with_reducible intro K hK|refine Rs.p ?_|((with_reducible first|apply oP|apply oQ);exact rfl));try simp only [go_sem,simprocAttr,hb])|((with_reducible refine oD ?_ ?_);kernel_rfl)|((with_reducible intro h);try simp only [go_sem,simprocAttr,hb] at h)|omega|intro h)
       refine ag (fun k:Nat=>k≤i∧gT g d i k=true) (fun k=>⟨[(2, .ptr 2 0),(3, .ptr 3 0),(14,eN i),(15,eN k)], [(2, .box [eN g.n, .d (sE g.es)]),(3, .box [.d (sP d.pts), .d (sLn d.ls)])]⟩) (fun k=>i - k) 0 (by simp [gT]) ?_ ?_
       ·(refine Le.of ?_ ?_<;>simp [go_sem,simprocAttr,hb])
       rintro k ⟨hk,hka⟩
       rcases Nat.lt_or_ge k i with b8|DA
       ·have bC:decide ((k:Int)<(i:Int))=true:=decide_eq_true (by omega)
        have K9:k<g.es.length:=by omega
        have iE:gT g d i (k+1)=(gT g d i k&& !qX g d i k):=by rw [pq,qX,Bool.not_not]
        repeat' (first|refine Rn.p ?_|(with_reducible apply And.intro)|((first|(refine hK _ ?_;clear hK K)|with_reducible intro K hK|refine Rs.p ?_|((with_reducible first|apply oP|apply oQ);exact rfl)|refine aa hX hC hP (sC g d hD i k hil K9) rfl rfl rfl (by simp only [go_sem,simprocAttr,bC]) rfl ?_);try simp only [go_sem,simprocAttr,bC])|((with_reducible refine oD ?_ ?_);kernel_rfl)|((with_reducible intro h);try simp only [go_sem,simprocAttr,bC] at h)|omega|intro h)
        ·have gW:fE g d i=false:=nI b8 (by rw [qX,Bool.not_eq_true'] at h;exact h)
         have f17:=eV hil Jq gW
         have nj:c=(17,(i:Int)):=by rw [hc1,if_pos (by omega),f17]
         rw [nj]
        ·have gW:fE g d i=false:=nI b8 (by rw [qX,Bool.not_eq_true'] at h;exact h)
         have f17:=eV hil Jq gW
         have nj:c=(17,(i:Int)):=by rw [hc1,if_pos (by omega),f17]
         rw [nj]
        ·refine ⟨k+1,⟨by omega,by rw [iE,hka,h];rfl⟩, ?_,by omega⟩
         (refine Le.of ?_ ?_<;>simp [go_sem,simprocAttr,bC])
       ·have bC:decide ((k:Int)<(i:Int))=false:=decide_eq_false (by omega)
        obtain rfl:k=i:=by omega
        repeat' (first|refine Rn.p ?_|(with_reducible apply And.intro)|((first|(refine hK _ ?_;clear hK K)|with_reducible intro K hK|refine Rs.p ?_|((with_reducible first|apply oP|apply oQ);exact rfl));try simp only [go_sem,simprocAttr,bC])|((with_reducible refine oD ?_ ?_);kernel_rfl)|((with_reducible intro h);try simp only [go_sem,simprocAttr,bC] at h)|omega|intro h)
        refine ⟨k+1,⟨by omega,ow Jq hka⟩, ?_,by omega⟩
        (refine Le.of ?_ ?_<;>simp [go_sem,simprocAttr,bC])
      ·have hb:decide ((i:Int)<(g.es.length:Int))=false:=decide_eq_false (by omega)
       obtain rfl:i=g.es.length:=by omega
       have f17:=fQ Jq
       rw [if_neg (by omega)] at hc1
       repeat' (first|refine Rn.p ?_|(with_reducible apply And.intro)|((first|(refine hK _ ?_;clear hK K)|with_reducible intro K hK|refine Rs.p ?_|((with_reducible first|apply oP|apply oQ);exact rfl));try simp only [go_sem,simprocAttr,hb])|((with_reducible refine oD ?_ ?_);kernel_rfl)|((with_reducible intro h);try simp only [go_sem,simprocAttr,hb] at h)|omega|intro h)
       all_goals rw [hc1]
end Go.Ab
end
section
namespace Go.Ab
open Go.Proofs
attribute [local congr] ACall.congr gd.congr Nx.congr
set_option maxRecDepth 10000
set_option maxHeartbeats 8000000
def kS (g:Gr) (d:Dr):Bool:=decide (40<g.es.length)||decide (70<d.pts.length)||decide (50<d.ls.length)||d.ls.any fun l=>decide (20<l.length)
theorem pF (g:Gr) (d:Dr) (hls:d.ls.length≤9223372036854775807):Spec Tryz.prog 15 (Args [eG g,eDr d]) [] (eB (kS g d)) []:=by
 (refine Spec.hd (C:=T.cfg [] []) (rs:= [.t 4]) (T.ai _ _) Tryz.func15 rfl rfl Tryz.ntmps15 Tryz.results15 (by simp [AObj.isNest]) (by simp [AObj.isNest]) (by kernel_rfl) T.mixed fun X hX hP hC aG b9=> ?_)
 by_cases h1:40<g.es.length
 ·have hb:decide ((40:Int)<(g.es.length:Int))=true:=decide_eq_true (by omega)
  repeat' (first|refine Rn.p ?_|(with_reducible apply And.intro)|((first|(refine hK _ ?_;clear hK K)|with_reducible intro K hK|refine Rs.p ?_|((with_reducible first|apply oP|apply oQ);exact rfl));try simp only [go_sem,simprocAttr,hb])|((with_reducible refine oD ?_ ?_);kernel_rfl)|((with_reducible intro h);try simp only [go_sem,simprocAttr,hb] at h)|omega|intro h)
  simp only [kS,decide_eq_true h1,Bool.true_or]
 by_cases h2:70<d.pts.length
 ·have hb:decide ((40:Int)<(g.es.length:Int))=false:=decide_eq_false (by omega)
  have bn:decide ((70:Int)<(d.pts.length:Int))=true:=decide_eq_true (by omega)
  repeat' (first|refine Rn.p ?_|(with_reducible apply And.intro)|((first|(refine hK _ ?_;clear hK K)|with_reducible intro K hK|refine Rs.p ?_|((with_reducible first|apply oP|apply oQ);exact rfl));try simp only [go_sem,simprocAttr,hb,bn])|((with_reducible refine oD ?_ ?_);kernel_rfl)|((with_reducible intro h);try simp only [go_sem,simprocAttr,hb,bn] at h)|omega|intro h)
  simp only [kS,decide_eq_true h2,Bool.true_or,Bool.or_true]
 by_cases h3:50<d.ls.length
 ·have hb:decide ((40:Int)<(g.es.length:Int))=false:=decide_eq_false (by omega)
  have bn:decide ((70:Int)<(d.pts.length:Int))=false:=decide_eq_false (by omega)
  have ez:decide ((50:Int)<(d.ls.length:Int))=true:=decide_eq_true (by omega)
  repeat' (first|refine Rn.p ?_|(with_reducible apply And.intro)|((first|(refine hK _ ?_;clear hK K)|with_reducible intro K hK|refine Rs.p ?_|((with_reducible first|apply oP|apply oQ);exact rfl));try simp only [go_sem,simprocAttr,hb,bn,ez])|((with_reducible refine oD ?_ ?_);kernel_rfl)|((with_reducible intro h);try simp only [go_sem,simprocAttr,hb,bn,ez] at h)|omega|intro h)
  simp only [kS,decide_eq_true h3,Bool.true_or,Bool.or_true]
 have hb:decide ((40:Int)<(g.es.length:Int))=false:=decide_eq_false (by omega)
 have bn:decide ((70:Int)<(d.pts.length:Int))=false:=decide_eq_false (by omega)
 have ez:decide ((50:Int)<(d.ls.length:Int))=false:=decide_eq_false (by omega)
 have hG:kS g d=d.ls.any fun l=>decide (20<l.length):=by simp only [kS,decide_eq_false h1,decide_eq_false h2,decide_eq_false h3,Bool.false_or]
 rw [hG]
 repeat' (first|refine Rn.p ?_|(with_reducible apply And.intro)|((first|(refine hK _ ?_;clear hK K)|with_reducible intro K hK|refine Rs.p ?_|((with_reducible first|apply oP|apply oQ);exact rfl));try simp only [go_sem,simprocAttr,hb,bn,ez])|((with_reducible refine oD ?_ ?_);kernel_rfl)|((with_reducible intro h);try simp only [go_sem,simprocAttr,hb,bn,ez] at h)|omega|intro h)
 refine ag (fun k:Nat=>k≤d.ls.length∧(d.ls.take k).any (fun l=>decide (20<l.length))=false) (fun k=>⟨[(24, .d (sLn d.ls)),(25,eN d.ls.length),(26,eN k)], []⟩) (fun k=>d.ls.length - k) 0 (by simp) ?_ ?_
 ·(refine Le.of ?_ ?_<;>simp [go_sem,simprocAttr,hb,bn,ez])
 rintro k ⟨hk,hf⟩
 rcases Nat.lt_or_ge k d.ls.length with hlt|hge
 ·have hb4:decide ((k:Int)<(d.ls.length:Int))=true:=decide_eq_true (by omega)
  repeat' (first|refine Rn.p ?_|(with_reducible apply And.intro)|((first|(refine hK _ ?_;clear hK K)|with_reducible intro K hK|refine Rs.p ?_|((with_reducible first|apply oP|apply oQ);exact rfl));try simp only [go_sem,simprocAttr,hb4])|((with_reducible refine oD ?_ ?_);kernel_rfl)|((with_reducible intro h);try simp only [go_sem,simprocAttr,hb4] at h)|omega|intro h)
  ·exact (kG (d:= []) hlt (decide_eq_true (by omega))).symm
  ·refine ⟨k+1,⟨by omega,gM [] hlt hf (decide_eq_false (by omega))⟩, ?_,by omega⟩
   (refine ⟨bI ?_,fun _ _ h=>h⟩;simp [go_sem,simprocAttr,hb4])
 ·have hb4:decide ((k:Int)<(d.ls.length:Int))=false:=decide_eq_false (by omega)
  rw [List.take_of_length_le hge] at hf
  repeat' (first|refine Rn.p ?_|(with_reducible apply And.intro)|((first|(refine hK _ ?_;clear hK K)|with_reducible intro K hK|refine Rs.p ?_|((with_reducible first|apply oP|apply oQ);exact rfl));try simp only [go_sem,simprocAttr,hb4])|((with_reducible refine oD ?_ ?_);kernel_rfl)|((with_reducible intro h);try simp only [go_sem,simprocAttr,hb4] at h)|omega|intro h)
  exact hf.symm
def gp:Gr:=⟨2, [(0,1)]⟩
def da:Dr:=⟨[(0,0),(0,1)], [[(0,0),(0,1)]]⟩
def db:Dr:=⟨[(0,1),(0,0)], [[(0,1),(0,0)]]⟩
theorem Gd:fF gp da=(0,0):=by decide
theorem Ge:fF gp db=(7,0):=by decide
theorem iS:Spec Tryz.prog 14 (Args []) [] (eB true) []:=by
 have h1:=Gd
 have h2:=Ge
 simp only [gp,da,db] at h1 h2
 (refine Spec.hd (C:=T.cfg [] []) (rs:= [.t 0]) (T.ai _ _) Tryz.func14 rfl rfl Tryz.ntmps14 Tryz.results14 (by simp [AObj.isNest]) (by simp [AObj.isNest]) (by kernel_rfl) T.mixed fun X hX hP hC aG b9=> ?_)
 repeat' (first|refine Rn.p ?_|(with_reducible apply And.intro)|((first|(refine hK _ ?_;clear hK K)|with_reducible intro K hK|refine Rs.p ?_|((with_reducible first|apply oP|apply oQ);exact rfl)|(refine ak hX hC hP (dB gp da (by decide) (by decide) (by decide) (by decide)) rfl rfl rfl ?_ ?_ rfl ?_;iterate 2 (focus (simp only [go_sem,simprocAttr,gp,da,db,rE,rP,vP,h1,h2];done)))|(refine ak hX hC hP (dB gp db (by decide) (by decide) (by decide) (by decide)) rfl rfl rfl ?_ ?_ rfl ?_;iterate 2 (focus (simp only [go_sem,simprocAttr,gp,da,db,rE,rP,vP,h1,h2];done))));try simp only [go_sem,simprocAttr,gp,da,db,rE,rP,vP,h1,h2])|((with_reducible refine oD ?_ ?_);kernel_rfl)|((with_reducible intro h);try simp only [go_sem,simprocAttr,gp,da,db,rE,rP,vP,h1,h2] at h)|omega|intro h)
end Go.Ab
end
