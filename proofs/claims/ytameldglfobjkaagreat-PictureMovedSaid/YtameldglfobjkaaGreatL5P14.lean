/- A part of the proof. -/
import Derived.Test.YtameldglfobjkaaGreatL5P13
set_option linter.unusedSimpArgs false
set_option linter.unusedVariables false
section
namespace Go.Ab
open Go.Proofs
attribute [local congr] ACall.congr gd.congr Nx.congr
set_option maxRecDepth 10000
set_option maxHeartbeats 4000000
theorem qq {l:List Pt} {k:Nat} (h:k+1<l.length):(eD l).getD k ((0,0),(0,0))=(l.getD k (0,0),l.getD (k+1) (0,0)):=by
 simp only [eD,GJ]
 rw [List.getD_eq_getElem?_getD,List.getElem?_map,List.getElem?_range (by omega)];rfl
theorem iC (a b c:Pt):Spec Tryz.prog 109 (Args [eP a,eP b,eP c]) [] (eB (lH a b c)) []:=by
 rw [← JL];exact bf a b c
theorem Aj (l:List Pt) (p:Pt) (hl:l.length≤1000000):Spec Tryz.prog 63 (Args [.d (sP l),eP p]) [] (eB (JN l p)) []:=by
 have ez:(eD l).length=l.length - 1:=eX
 (refine Spec.hd (C:=T.cfg [] []) (rs:= [.t 4]) (T.ah _ _) Tryz.func63 rfl rfl Tryz.ntmps63 Tryz.results63 (by simp [AObj.isNest]) (by simp [AObj.isNest]) (by kernel_rfl) T.mixed fun X hX hP hC aB bK=> ?_)
 repeat' (first|refine Rn.p ?_|(with_reducible apply And.intro)|((first|(refine hK _ ?_;clear hK K)|with_reducible intro K hK|refine Rs.p ?_|((with_reducible first|apply oP|apply oQ);exact rfl)|refine aa hX hC hP (iC (l.getD k (0,0)) (l.getD (k+1) (0,0)) p) rfl rfl rfl (by simp only [go_sem,simprocAttr]) rfl ?_);try simp only [go_sem,simprocAttr])|((with_reducible refine oD ?_ ?_);kernel_rfl)|((with_reducible intro h);try simp only [go_sem,simprocAttr] at h)|omega|intro h)
 refine ag (fun k:Nat=>k≤(eD l).length∧((eD l).take k).any (fun q=>lH q.1 q.2 p)=false) (fun k=>⟨[(0, .d (sP l)),(3, .ptr 3 0),(5,eN k)], [(3, .box [eN p.1,eN p.2])]⟩) (fun k=>(eD l).length - k) 0 (by simp) ?_ ?_
 ·(refine Le.of ?_ ?_<;>simp [go_sem,simprocAttr])
 rintro k ⟨hk,hf⟩
 rcases Nat.lt_or_ge (k+1) l.length with hlt|hge
 ·have hb:decide ((k:Int)+1<(l.length:Int))=true:=decide_eq_true (by omega)
  have hg:=qq hlt
  have ht:(k:Int)+1=((k+1:Nat):Int):=rfl
  have htn:((k:Int)+1).toNat=k+1:=by omega
  repeat' (first|refine Rn.p ?_|(with_reducible apply And.intro)|((first|(refine hK _ ?_;clear hK K)|with_reducible intro K hK|refine Rs.p ?_|((with_reducible first|apply oP|apply oQ);exact rfl)|refine aa hX hC hP (iC (l.getD k (0,0)) (l.getD (k+1) (0,0)) p) rfl rfl rfl (by simp only [go_sem,simprocAttr,hb,htn]) rfl ?_);try simp only [go_sem,simprocAttr,hb,htn])|((with_reducible refine oD ?_ ?_);kernel_rfl)|((with_reducible intro h);try simp only [go_sem,simprocAttr,hb,htn] at h)|omega|intro h)
  ·rw [JN,mM (d:=((0,0),(0,0))) (k:=k) (by omega) (by rw [hg];exact h)]
  ·refine ⟨k+1,⟨by omega,jm ((0,0),(0,0)) (by omega) hf (by rw [hg];exact h)⟩, ?_,by omega⟩
   (refine Le.of ?_ ?_<;>simp [go_sem,simprocAttr,hb,htn])
 ·have hb:decide ((k:Int)+1<(l.length:Int))=false:=decide_eq_false (by omega)
  rw [List.take_of_length_le (by omega)] at hf
  repeat' (first|refine Rn.p ?_|(with_reducible apply And.intro)|((first|(refine hK _ ?_;clear hK K)|with_reducible intro K hK|refine Rs.p ?_|((with_reducible first|apply oP|apply oQ);exact rfl)|refine aa hX hC hP (iC (l.getD k (0,0)) (l.getD (k+1) (0,0)) p) rfl rfl rfl (by simp only [go_sem,simprocAttr,hb]) rfl ?_);try simp only [go_sem,simprocAttr,hb])|((with_reducible refine oD ?_ ?_);kernel_rfl)|((with_reducible intro h);try simp only [go_sem,simprocAttr,hb] at h)|omega|intro h)
  exact hf.symm
theorem GR (p:Pt):decide (bn p)= !jZ p:=by rw [qj,Bool.not_not]
theorem qt (p:Pt):Spec Tryz.prog 108 (Args [eP p]) [] (eB (!jZ p)) []:=by
 rw [← GR];exact lI p
theorem mX (d:Dr) (hp:d.pts.length≤1000) (hls:d.ls.length≤1000) (jK:∀l∈d.ls,l.length≤1000):Spec Tryz.prog 62 (Args [eDr d]) [] (eB (dH d)) []:=by
 (refine Spec.hd (C:=T.cfg [] []) (rs:= [.t 2]) (T.ah _ _) Tryz.func62 rfl rfl Tryz.ntmps62 Tryz.results62 (by simp [AObj.isNest]) (by simp [AObj.isNest]) (by kernel_rfl) T.mixed fun X hX hP hC aB bK=> ?_)
 repeat' (first|refine Rn.p ?_|(with_reducible apply And.intro)|((first|(refine hK _ ?_;clear hK K)|with_reducible intro K hK|refine Rs.p ?_|((with_reducible first|apply oP|apply oQ);exact rfl));try simp only [go_sem,simprocAttr])|((with_reducible refine oD ?_ ?_);kernel_rfl)|((with_reducible intro h);try simp only [go_sem,simprocAttr] at h)|omega|intro h)
 refine ag (fun k:Nat=>k≤d.pts.length∧(d.pts.take k).any jZ=false) (fun k=>⟨[(1, .ptr 1 0),(3,eN k)], [(1, .box [.d (sP d.pts), .d (sLn d.ls)])]⟩) (fun k=>d.pts.length - k) 0 (by simp) ?_ ?_
 ·(refine Le.of ?_ ?_<;>simp [go_sem,simprocAttr])
 rintro k ⟨hk,hf⟩
 rcases Nat.lt_or_ge k d.pts.length with hlt|hge
 ·have hb:decide ((k:Int)<(d.pts.length:Int))=true:=decide_eq_true (by omega)
  repeat' (first|refine Rn.p ?_|(with_reducible apply And.intro)|((first|(refine hK _ ?_;clear hK K)|with_reducible intro K hK|refine Rs.p ?_|((with_reducible first|apply oP|apply oQ);exact rfl)|refine aa hX hC hP (qt (d.pts.getD k (0,0))) rfl rfl rfl (by simp only [go_sem,simprocAttr,hb]) rfl ?_);try simp only [go_sem,simprocAttr,hb])|((with_reducible refine oD ?_ ?_);kernel_rfl)|((with_reducible intro h);try simp only [go_sem,simprocAttr,hb] at h)|omega|intro h)
  ·rw [dH,mM (d:=(0,0)) (k:=k) hlt h];rfl
  ·refine ⟨k+1,⟨by omega,jm (0,0) hlt hf h⟩, ?_,by omega⟩
   (refine Le.of ?_ ?_<;>simp [go_sem,simprocAttr,hb])
 ·have hb:decide ((k:Int)<(d.pts.length:Int))=false:=decide_eq_false (by omega)
  rw [List.take_of_length_le hge] at hf
  repeat' (first|refine Rn.p ?_|(with_reducible apply And.intro)|((first|(refine hK _ ?_;clear hK K)|with_reducible intro K hK|refine Rs.p ?_|((with_reducible first|apply oP|apply oQ);exact rfl));try simp only [go_sem,simprocAttr,hb])|((with_reducible refine oD ?_ ?_);kernel_rfl)|((with_reducible intro h);try simp only [go_sem,simprocAttr,hb] at h)|omega|intro h)
  refine ag (fun k:Nat=>k≤d.ls.length∧(d.ls.take k).any iB=false) (fun k=>⟨[(1, .ptr 1 0),(4,eN k)], [(1, .box [.d (sP d.pts), .d (sLn d.ls)])]⟩) (fun k=>d.ls.length - k) 0 (by simp) ?_ ?_
  ·(refine Le.of ?_ ?_<;>simp [go_sem,simprocAttr,hb])
  clear hk hge hb
  rintro k ⟨hk,Gt⟩
  rcases Nat.lt_or_ge k d.ls.length with hlt|hge
  ·have hb:decide ((k:Int)<(d.ls.length:Int))=true:=decide_eq_true (by omega)
   obtain ⟨l,hl⟩:∃l,l=d.ls.getD k []:=⟨_,rfl⟩
   have hlen:l.length≤1000:=jK l (by rw [hl];exact aD hlt)
   have hno:iB l=true→dH d=false:=fun hb=>by
    rw [dH,mM (xs:=d.ls) (d:= []) (k:=k) hlt (by rw [← hl];exact hb),Bool.not_true,Bool.and_false]
   repeat' (first|refine Rn.p ?_|(with_reducible apply And.intro)|((first|(refine hK _ ?_;clear hK K)|with_reducible intro K hK|refine Rs.p ?_|((with_reducible first|apply oP|apply oQ);exact rfl));try simp only [go_sem,simprocAttr,hb, ← hl])|((with_reducible refine oD ?_ ?_);kernel_rfl)|((with_reducible intro h);try simp only [go_sem,simprocAttr,hb, ← hl] at h)|omega|intro h)
   ·refine (hno ?_).symm
    simp only [iB,decide_eq_true (show 8<l.length by omega),Bool.or_true,Bool.true_or]
   ·refine ag (fun j:Nat=>j≤l.length∧(l.take j).any jZ=false) (fun j=>⟨[(1, .ptr 1 0),(4,eN k),(5,eN j)], [(1, .box [.d (sP d.pts), .d (sLn d.ls)])]⟩) (fun j=>l.length - j) 0 (by simp) ?_ ?_
    ·(refine Le.of ?_ ?_<;>simp [go_sem,simprocAttr,hb, ← hl])
    rintro j ⟨hj,QS⟩
    rcases Nat.lt_or_ge j l.length with hjl|L1
    ·have cU:decide ((j:Int)<(l.length:Int))=true:=decide_eq_true (by omega)
     repeat' (first|refine Rn.p ?_|(with_reducible apply And.intro)|((first|(refine hK _ ?_;clear hK K)|with_reducible intro K hK|refine Rs.p ?_|((with_reducible first|apply oP|apply oQ);exact rfl)|refine aa hX hC hP (qt (l.getD j (0,0))) rfl rfl rfl (by simp only [go_sem,simprocAttr, ← hl,cU]) rfl ?_);try simp only [go_sem,simprocAttr, ← hl,cU])|((with_reducible refine oD ?_ ?_);kernel_rfl)|((with_reducible intro h);try simp only [go_sem,simprocAttr, ← hl,cU] at h)|omega|intro h)
     ·refine (hno ?_).symm
      rw [iB,mM (d:=(0,0)) (k:=j) hjl h,Bool.or_true]
     ·refine ⟨j+1,⟨by omega,jm (0,0) hjl QS h⟩, ?_,by omega⟩
      (refine Le.of ?_ ?_<;>simp [go_sem,simprocAttr, ← hl,cU])
    ·have cU:decide ((j:Int)<(l.length:Int))=false:=decide_eq_false (by omega)
     rw [List.take_of_length_le L1] at QS
     have IU:iB l=false:=by
      simp only [iB,decide_eq_false (show ¬l.length<2 by omega),decide_eq_false (show ¬8<l.length by omega),QS,Bool.or_false]
     repeat' (first|refine Rn.p ?_|(with_reducible apply And.intro)|((first|(refine hK _ ?_;clear hK K)|with_reducible intro K hK|refine Rs.p ?_|((with_reducible first|apply oP|apply oQ);exact rfl));try simp only [go_sem,simprocAttr, ← hl,cU])|((with_reducible refine oD ?_ ?_);kernel_rfl)|((with_reducible intro h);try simp only [go_sem,simprocAttr, ← hl,cU] at h)|omega|intro h)
     refine ⟨k+1,⟨by omega,jm [] hlt Gt (by rw [← hl];exact IU)⟩, ?_,by omega⟩
     (refine Le.of ?_ ?_<;>simp [go_sem,simprocAttr, ← hl,cU])
   ·refine (hno ?_).symm
    simp only [iB,decide_eq_true (show l.length<2 by omega),Bool.true_or]
  ·have hb:decide ((k:Int)<(d.ls.length:Int))=false:=decide_eq_false (by omega)
   rw [List.take_of_length_le hge] at Gt
   repeat' (first|refine Rn.p ?_|(with_reducible apply And.intro)|((first|(refine hK _ ?_;clear hK K)|with_reducible intro K hK|refine Rs.p ?_|((with_reducible first|apply oP|apply oQ);exact rfl));try simp only [go_sem,simprocAttr,hb])|((with_reducible refine oD ?_ ?_);kernel_rfl)|((with_reducible intro h);try simp only [go_sem,simprocAttr,hb] at h)|omega|intro h)
   rw [dH,hf,Gt];rfl
def yF (g:Gr) (d:Dr) (i k:Nat) (a b:Pc) (m:Nat):Bool:=(List.range m).any fun x=>(decide ((g.es.getD i (0,0)).1=(x:Int))||decide ((g.es.getD i (0,0)).2=(x:Int)))&&(decide ((g.es.getD k (0,0)).1=(x:Int))||decide ((g.es.getD k (0,0)).2=(x:Int)))&&lH a.1 a.2 (d.pts.getD x (0,0))&&lH b.1 b.2 (d.pts.getD x (0,0))
theorem Ei {g:Gr} {d:Dr} {i k:Nat} {a b:Pc} {m:Nat} :yF g d i k a b (m+1)=(yF g d i k a b m||((decide ((g.es.getD i (0,0)).1=(m:Int))||decide ((g.es.getD i (0,0)).2=(m:Int)))&&(decide ((g.es.getD k (0,0)).1=(m:Int))||decide ((g.es.getD k (0,0)).2=(m:Int)))&&lH a.1 a.2 (d.pts.getD m (0,0))&&lH b.1 b.2 (d.pts.getD m (0,0)))):=by
 simp [yF,List.range_succ]
theorem GS {g:Gr} {d:Dr} (hD:ry g d) {i k:Nat} (hi:i<g.es.length) (a b:Pc):yF g d i k a b g.n.toNat=(eC g d i k).any fun p=>lH a.1 a.2 p&&lH b.1 b.2 p:=by
 obtain ⟨⟨Gq,vR⟩,zx,tW⟩:=dX hD.may hi
 rw [Bool.eq_iff_iff]
 simp only [yF,List.any_eq_true,List.mem_range,Bool.and_eq_true,Bool.or_eq_true,decide_eq_true_eq,eC,oo,List.mem_map,List.mem_filter,GN]
 constructor
 ·rintro ⟨x,hx,⟨⟨h1,h2⟩,h3⟩,h4⟩
  refine ⟨_,⟨(x:Int),⟨by simp only [List.take_succ_cons,List.take_zero,List.mem_cons,List.not_mem_nil,or_false];omega,by omega⟩,by rw [Int.toNat_natCast]⟩,h3,h4⟩
 ·rintro ⟨p,⟨x,⟨h1,h2⟩,rfl⟩,h3,h4⟩
  simp only [List.take_succ_cons,List.take_zero,List.mem_cons,List.not_mem_nil,or_false] at h1
  refine ⟨x.toNat,by omega,⟨⟨by omega,by omega⟩,h3⟩,h4⟩
theorem Ak (a b c d:Pt):0≤eW a b c d∧eW a b c d≤2:=by
 unfold eW
 split
 ·split
  ·omega
  ·split<;>omega
 ·omega
theorem wg (a b c d:Pt):Spec Tryz.prog 110 (Args [eP a,eP b,eP c,eP d]) [] (eN (eW a b c d)) []:=by
 rw [← C3];exact yw a b c d
def uZ (g:Gr) (d:Dr) (i k:Nat):Bool:= !(eD (d.ls.getD i [])).all fun a=>(eD (d.ls.getD k [])).all fun b=> !fG (eC g d i k) a b
theorem wh (g:Gr) (d:Dr) (hD:ry g d) (i k:Nat) (hi:i<g.es.length) (hk:k<g.es.length):Spec Tryz.prog 64 (Args [eG g,eDr d,eN i,eN k]) [] (eB (uZ g d i k)) []:=by
 have hn:=bF hD.may
 have hnp:=hD.np
 have hnl:=hD.nl
 obtain ⟨li,u5⟩:∃l,l=d.ls.getD i []:=⟨_,rfl⟩
 obtain ⟨lk,hlk⟩:∃l,l=d.ls.getD k []:=⟨_,rfl⟩
 have hi2:=hD.line hi
 have hk2:=hD.line hk
 rw [← u5] at hi2
 rw [← hlk] at hk2
 have hpi:(eD li).length=li.length - 1:=eX
 have hpk:(eD lk).length=lk.length - 1:=eX
 have hB:uZ g d i k= !(eD li).all fun a=>(eD lk).all fun b=> !fG (eC g d i k) a b:=by rw [uZ, ← u5, ← hlk]
 rw [hB]
 (refine Spec.hd (C:=T.cfg [] []) (rs:= [.t 8]) (T.ah _ _) Tryz.func64 rfl rfl Tryz.ntmps64 Tryz.results64 (by simp [AObj.isNest]) (by simp [AObj.isNest]) (by kernel_rfl) T.mixed fun X hX hP hC aB bK=> ?_)
 repeat' (first|refine Rn.p ?_|(with_reducible apply And.intro)|((first|(refine hK _ ?_;clear hK K)|with_reducible intro K hK|refine Rs.p ?_|((with_reducible first|apply oP|apply oQ);exact rfl));try simp only [go_sem,simprocAttr])|((with_reducible refine oD ?_ ?_);kernel_rfl)|((with_reducible intro h);try simp only [go_sem,simprocAttr] at h)|omega|intro h)
 refine ag (fun s:Nat=>s≤(eD li).length∧((eD li).take s).all (fun a=>(eD lk).all fun b=> !fG (eC g d i k) a b)=true) (fun s=>⟨[(2,eN i),(3,eN k),(4, .ptr 4 0),(5, .ptr 5 0),(9, .ptr 9 0),(10, .ptr 10 0),(11,eN s)], [(4, .box [eN g.n, .d (sE g.es)]),(5, .box [.d (sP d.pts), .d (sLn d.ls)]),(9, .box [eN (g.es.getD i (0,0)).1,eN (g.es.getD i (0,0)).2]),(10, .box [eN (g.es.getD k (0,0)).1,eN (g.es.getD k (0,0)).2])]⟩) (fun s=>(eD li).length - s) 0 (by simp) ?_ ?_
 ·(refine Le.of ?_ ?_<;>simp [go_sem,simprocAttr])
 rintro s ⟨hs,JO⟩
 rcases Nat.lt_or_ge (s+1) li.length with za|LM
 ·have aC:decide ((s:Int)+1<(li.length:Int))=true:=decide_eq_true (by omega)
  have QT:=qq za
  have htn:((s:Int)+1).toNat=s+1:=by omega
  repeat' (first|refine Rn.p ?_|(with_reducible apply And.intro)|((first|(refine hK _ ?_;clear hK K)|with_reducible intro K hK|refine Rs.p ?_|((with_reducible first|apply oP|apply oQ);exact rfl));try simp only [go_sem,simprocAttr, ← u5, ← hlk,aC])|((with_reducible refine oD ?_ ?_);kernel_rfl)|((with_reducible intro h);try simp only [go_sem,simprocAttr, ← u5, ← hlk,aC] at h)|omega|intro h)
  refine ag (fun t:Nat=>t≤(eD lk).length∧((eD lk).take t).all (fun b=> !fG (eC g d i k) (li.getD s (0,0),li.getD (s+1) (0,0)) b)=true) (fun t=>⟨[(2,eN i),(3,eN k),(4, .ptr 4 0),(5, .ptr 5 0),(9, .ptr 9 0),(10, .ptr 10 0),(11,eN s),(12,eN t)], [(4, .box [eN g.n, .d (sE g.es)]),(5, .box [.d (sP d.pts), .d (sLn d.ls)]),(9, .box [eN (g.es.getD i (0,0)).1,eN (g.es.getD i (0,0)).2]),(10, .box [eN (g.es.getD k (0,0)).1,eN (g.es.getD k (0,0)).2])]⟩) (fun t=>(eD lk).length - t) 0 (by simp) ?_ ?_
  ·(refine Le.of ?_ ?_<;>simp [go_sem,simprocAttr, ← u5, ← hlk,aC])
  rintro t ⟨ht,JP⟩
  rcases Nat.lt_or_ge (t+1) lk.length with l7|Sa
  ·have aI:decide ((t:Int)+1<(lk.length:Int))=true:=decide_eq_true (by omega)
   have KX:=qq l7
   have GU:((t:Int)+1).toNat=t+1:=by omega
   obtain ⟨n,JQ⟩:∃n,n=eW (li.getD s (0,0)) (li.getD (s+1) (0,0)) (lk.getD t (0,0)) (lk.getD (t+1) (0,0)):=⟨_,rfl⟩
   have QU:=Ak (li.getD s (0,0)) (li.getD (s+1) (0,0)) (lk.getD t (0,0)) (lk.getD (t+1) (0,0))
   rw [← JQ] at QU
   have oT:fG (eC g d i k) (li.getD s (0,0),li.getD (s+1) (0,0)) (lk.getD t (0,0),lk.getD (t+1) (0,0))=(decide (1<n)||(decide (n=1)&& !yF g d i k (li.getD s (0,0),li.getD (s+1) (0,0)) (lk.getD t (0,0),lk.getD (t+1) (0,0)) g.n.toNat)):=by
    rw [GS hD hi,JQ];rfl
   have IU:fG (eC g d i k) (li.getD s (0,0),li.getD (s+1) (0,0)) (lk.getD t (0,0),lk.getD (t+1) (0,0))=false→((eD lk).take (t+1)).all (fun b=> !fG (eC g d i k) (li.getD s (0,0),li.getD (s+1) (0,0)) b)=true:=fun hb=>
    qp ((0,0),(0,0)) (by omega) JP (by rw [KX,hb];rfl)
   have hno:fG (eC g d i k) (li.getD s (0,0),li.getD (s+1) (0,0)) (lk.getD t (0,0),lk.getD (t+1) (0,0))=true→((eD li).all fun a=>(eD lk).all fun b=> !fG (eC g d i k) a b)=false:=fun hb=>
    jS (d:=((0,0),(0,0))) (k:=s) (by omega) (by rw [QT];exact jS (d:=((0,0),(0,0))) (k:=t) (by omega) (by rw [KX,hb];rfl))
   repeat' (first|refine Rn.p ?_|(with_reducible apply And.intro)|((first|(refine hK _ ?_;clear hK K)|with_reducible intro K hK|refine Rs.p ?_|((with_reducible first|apply oP|apply oQ);exact rfl)|refine aa hX hC hP (wg (li.getD s (0,0)) (li.getD (s+1) (0,0)) (lk.getD t (0,0)) (lk.getD (t+1) (0,0))) rfl rfl rfl (by simp only [go_sem,simprocAttr, ← u5, ← hlk,aI,htn,GU, ← JQ]) rfl ?_);try simp only [go_sem,simprocAttr, ← u5, ← hlk,aI,htn,GU, ← JQ])|((with_reducible refine oD ?_ ?_);kernel_rfl)|((with_reducible intro h);try simp only [go_sem,simprocAttr, ← u5, ← hlk,aI,htn,GU, ← JQ] at h)|omega|intro h)
   ·refine ⟨t+1,⟨by omega,IU (by rw [oT,decide_eq_false (by omega),decide_eq_false (by omega)];rfl)⟩, ?_,by omega⟩
    (refine Le.of ?_ ?_<;>simp [go_sem,simprocAttr, ← u5, ← hlk,aI,htn,GU, ← JQ])
   ·obtain ⟨en,QV⟩:∃e,e=yF g d i k (li.getD s (0,0),li.getD (s+1) (0,0)) (lk.getD t (0,0),lk.getD (t+1) (0,0)) g.n.toNat:=⟨_,rfl⟩
    rw [← QV] at oT
    refine ag (fun m:Nat=>m≤g.n.toNat) (fun m=>⟨[(2,eN i),(3,eN k),(4, .ptr 4 0),(5, .ptr 5 0),(9, .ptr 9 0),(10, .ptr 10 0),(11,eN s),(12,eN t),(13, .ptr 13 0),(14, .ptr 14 0),(15, .ptr 15 0),(16, .ptr 16 0),(17,eN n),(18,eB (yF g d i k (li.getD s (0,0),li.getD (s+1) (0,0)) (lk.getD t (0,0),lk.getD (t+1) (0,0)) m)),(19,eN m)], [(4, .box [eN g.n, .d (sE g.es)]),(5, .box [.d (sP d.pts), .d (sLn d.ls)]),(9, .box [eN (g.es.getD i (0,0)).1,eN (g.es.getD i (0,0)).2]),(10, .box [eN (g.es.getD k (0,0)).1,eN (g.es.getD k (0,0)).2]),(13, .box [eN (li.getD s (0,0)).1,eN (li.getD s (0,0)).2]),(14, .box [eN (li.getD (s+1) (0,0)).1,eN (li.getD (s+1) (0,0)).2]),(15, .box [eN (lk.getD t (0,0)).1,eN (lk.getD t (0,0)).2]),(16, .box [eN (lk.getD (t+1) (0,0)).1,eN (lk.getD (t+1) (0,0)).2])]⟩) (fun m=>g.n.toNat - m) 0 (by simp) ?_ ?_
    ·refine Le.of ?_ ?_<;>simp [go_sem,simprocAttr, ← u5, ← hlk,aI,htn,GU, ← JQ,yF]
    rintro m hm
    rcases Nat.lt_or_ge m g.n.toNat with hml|Vw
    ·have cU:decide ((m:Int)<g.n)=true:=decide_eq_true (by omega)
     have gJ:=Ei (g:=g) (d:=d) (i:=i) (k:=k) (a:=(li.getD s (0,0),li.getD (s+1) (0,0))) (b:=(lk.getD t (0,0),lk.getD (t+1) (0,0))) (m:=m)
     repeat' (first|refine Rn.p ?_|(with_reducible apply And.intro)|((first|(refine hK _ ?_;clear hK K)|with_reducible intro K hK|refine Rs.p ?_|((with_reducible first|apply oP|apply oQ);exact rfl)|refine aa hX hC hP (iC (li.getD s (0,0)) (li.getD (s+1) (0,0)) (d.pts.getD m (0,0))) rfl rfl rfl (by simp only [go_sem,simprocAttr, ← u5, ← hlk,cU]) rfl ?_|refine aa hX hC hP (iC (lk.getD t (0,0)) (lk.getD (t+1) (0,0)) (d.pts.getD m (0,0))) rfl rfl rfl (by simp only [go_sem,simprocAttr, ← u5, ← hlk,cU]) rfl ?_);try simp only [go_sem,simprocAttr, ← u5, ← hlk,cU])|((with_reducible refine oD ?_ ?_);kernel_rfl)|((with_reducible intro h);try simp only [go_sem,simprocAttr, ← u5, ← hlk,cU] at h)|omega|intro h)
     all_goals (
      refine ⟨m+1,by omega, ?_,by omega⟩
      rw [gJ]
      clear u5 hlk hB QT KX IU hno oT QV JQ gJ JO JP aC aI cU
      simp only [*,decide_true,decide_false,Bool.true_or,Bool.or_true,Bool.false_or,Bool.or_false,Bool.true_and,Bool.false_and,Bool.and_true,Bool.and_false]
      refine Le.of ?_ ?_<;>simp [go_sem,simprocAttr])
    ·have cU:decide ((m:Int)<g.n)=false:=decide_eq_false (by omega)
     obtain rfl:m=g.n.toNat:=by omega
     rw [← QV]
     repeat' (first|refine Rn.p ?_|(with_reducible apply And.intro)|((first|(refine hK _ ?_;clear hK K)|with_reducible intro K hK|refine Rs.p ?_|((with_reducible first|apply oP|apply oQ);exact rfl));try simp only [go_sem,simprocAttr, ← u5, ← hlk,cU])|((with_reducible refine oD ?_ ?_);kernel_rfl)|((with_reducible intro h);try simp only [go_sem,simprocAttr, ← u5, ← hlk,cU] at h)|omega|intro h)
     all_goals first
      |(have Fe:=hno (by
         rw [oT];simp only [decide_eq_true_eq,Bool.or_eq_true,Bool.and_eq_true,Bool.not_eq_true']
         first|exact .inl (by omega)|exact .inr ⟨by omega,by assumption⟩)
        rw [Fe];rfl)
      |(refine ⟨t+1,⟨by omega,IU (by
         rw [oT];simp only [Bool.or_eq_false_iff,decide_eq_false_iff_not,Bool.and_eq_false_iff,Bool.not_eq_false']
         exact ⟨by omega, .inr (by assumption)⟩)⟩, ?_,by omega⟩
        (refine Le.of ?_ ?_<;>simp [go_sem,simprocAttr, ← u5, ← hlk,cU]))
  ·have aI:decide ((t:Int)+1<(lk.length:Int))=false:=decide_eq_false (by omega)
   rw [List.take_of_length_le (by omega)] at JP
   repeat' (first|refine Rn.p ?_|(with_reducible apply And.intro)|((first|(refine hK _ ?_;clear hK K)|with_reducible intro K hK|refine Rs.p ?_|((with_reducible first|apply oP|apply oQ);exact rfl));try simp only [go_sem,simprocAttr, ← u5, ← hlk,aI])|((with_reducible refine oD ?_ ?_);kernel_rfl)|((with_reducible intro h);try simp only [go_sem,simprocAttr, ← u5, ← hlk,aI] at h)|omega|intro h)
   refine ⟨s+1,⟨by omega,qp ((0,0),(0,0)) (by omega) JO (by rw [QT];exact JP)⟩, ?_,by omega⟩
   (refine Le.of ?_ ?_<;>simp [go_sem,simprocAttr, ← u5, ← hlk,aI])
 ·have aC:decide ((s:Int)+1<(li.length:Int))=false:=decide_eq_false (by omega)
  rw [List.take_of_length_le (by omega)] at JO
  repeat' (first|refine Rn.p ?_|(with_reducible apply And.intro)|((first|(refine hK _ ?_;clear hK K)|with_reducible intro K hK|refine Rs.p ?_|((with_reducible first|apply oP|apply oQ);exact rfl));try simp only [go_sem,simprocAttr, ← u5, ← hlk,aC])|((with_reducible refine oD ?_ ?_);kernel_rfl)|((with_reducible intro h);try simp only [go_sem,simprocAttr, ← u5, ← hlk,aC] at h)|omega|intro h)
  rw [JO];rfl
end Go.Ab
end
section
namespace Go.Ab
open Go.Proofs
attribute [local congr] ACall.congr gd.congr Nx.congr
set_option maxRecDepth 10000
set_option maxHeartbeats 8000000
theorem lN (g:Gr) (hl:g.es.length≤1000):Spec Tryz.prog 61 (Args [eG g]) [] (eB (decide ((dD g).1=0))) []:=by
 rw [KP]
 (refine Spec.hd (C:=T.cfg [] []) (rs:= [.t 2]) (T.ah _ _) Tryz.func61 rfl rfl Tryz.ntmps61 Tryz.results61 (by simp [AObj.isNest]) (by simp [AObj.isNest]) (by kernel_rfl) T.mixed fun X hX hP hC aB bK=> ?_)
 repeat' (first|refine Rn.p ?_|(with_reducible apply And.intro)|((first|(refine hK _ ?_;clear hK K)|with_reducible intro K hK|refine Rs.p ?_|((with_reducible first|apply oP|apply oQ);exact rfl)|refine aa hX hC hP (v8 g hl) rfl rfl rfl (by simp only [go_sem,simprocAttr]) rfl ?_);try simp only [go_sem,simprocAttr])|((with_reducible refine oD ?_ ?_);kernel_rfl)|((with_reducible intro h);try simp only [go_sem,simprocAttr] at h)|omega|intro h)
theorem ga {n k:Nat} {holds:Nat→Bool} (hk:k<n) (h:∀j,j<k→holds j=true) (hb:holds k=false):bG n holds=k:=by
 refine bZ (d:=0) (by simpa using hk) (fun j hj=> ?_) ?_
 ·rw [cG (by omega),h j hj];rfl
 ·rw [cG hk,hb];rfl
theorem gh {n:Nat} {holds:Nat→Bool} (h:∀j,j<n→holds j=true):bG n holds= -1:=by
 refine bA 0 fun j hj=> ?_
 rw [List.length_range] at hj
 rw [cG hj,h j hj];rfl
theorem rz {p:Nat→Prop} {k:Nat} (h:∀j,j<k→p j) (hk:p k):∀j,j<k+1→p j:=fun j hj=>by
 by_cases hjk:j=k
 ·subst hjk;exact hk
 ·exact h j (by omega)
theorem sZ (g:Gr) (d:Dr) (xX:g.es.length≤1000) (hp:d.pts.length≤1000) (hls:d.ls.length≤1000) (jK:∀l∈d.ls,l.length≤1000):
 Spec Tryz.prog 23 (Args [eG g,eDr d]) [] (.tup [eN (gW g d).1,eN (gW g d).2]) []:=by
 (refine Spec.hd (C:=T.cfg [] []) (rs:= [.t 4, .t 5]) (T.ah _ _) Tryz.func23 rfl rfl Tryz.ntmps23 Tryz.results23 (by simp [AObj.isNest]) (by simp [AObj.isNest]) (by kernel_rfl) T.mixed fun X hX hP hC aB bK=> ?_)
 cases hfit:fz g d with
 |false=>
  have hc:gW g d=(1,0):=by rw [gW,if_pos hfit]
  have hneg:¬((dD g).1=0∧(d.pts.length:Int)=g.n∧d.ls.length=g.es.length):=fun ⟨a,b,c⟩=>by simp [fz,a,b,c] at hfit
  repeat' (first|refine Rn.p ?_|(with_reducible apply And.intro)|((first|(refine hK _ ?_;clear hK K)|with_reducible intro K hK|refine Rs.p ?_|((with_reducible first|apply oP|apply oQ);exact rfl)|refine aa hX hC hP (lN g xX) rfl rfl rfl (by simp only [go_sem,simprocAttr,hc]) rfl ?_);try simp only [go_sem,simprocAttr,hc])|((with_reducible refine oD ?_ ?_);kernel_rfl)|((with_reducible intro h);try simp only [go_sem,simprocAttr,hc] at h)|omega|intro h)
 |true=>
  simp only [fz,Bool.and_eq_true,decide_eq_true_eq] at hfit
  obtain ⟨⟨h0,hnp⟩,hnl⟩:=hfit
  have hfit:fz g d=true:=by simp only [fz,h0,hnp,hnl,decide_true,Bool.and_self]
  have hm:=uY h0
  have hn:=bF hm
  cases hr:dH d with
  |false=>
   have hc:gW g d=(2,0):=by rw [gW,if_neg (by rw [hfit];simp),if_pos hr]
   repeat' (first|refine Rn.p ?_|(with_reducible apply And.intro)|((first|(refine hK _ ?_;clear hK K)|with_reducible intro K hK|refine Rs.p ?_|((with_reducible first|apply oP|apply oQ);exact rfl)|refine aa hX hC hP (lN g xX) rfl rfl rfl (by simp only [go_sem,simprocAttr,hc,h0,hnl,hr,hnp]) rfl ?_|refine aa hX hC hP (mX d hp hls jK) rfl rfl rfl (by simp only [go_sem,simprocAttr,hc,h0,hnl,hr,hnp]) rfl ?_);try simp only [go_sem,simprocAttr,hc,h0,hnl,hr,hnp])|((with_reducible refine oD ?_ ?_);kernel_rfl)|((with_reducible intro h);try simp only [go_sem,simprocAttr,hc,h0,hnl,hr,hnp] at h)|omega|intro h)
  |true=>
  have hD:ry g d:=⟨hm,hnp,hnl,o7 hr⟩
  have hc1:gW g d=if 0≤bG g.es.length (om g d) then (6,bG g.es.length (om g d)) else
   if 0≤bG g.es.length (fun i=>fF (d.ls.getD i [])) then (7,bG g.es.length (fun i=>fF (d.ls.getD i []))) else
   if 0≤bG d.pts.length (dY d) then (8,bG d.pts.length (dY d)) else
   if 0≤bG g.es.length (jw g d) then (9,bG g.es.length (jw g d)) else
   if 0≤bG g.es.length (fu g d) then (17,bG g.es.length (fu g d)) else (0,0):=by
   rw [gW,if_neg (by rw [hfit];simp),if_neg (by rw [hr];simp)]
  generalize TJ:gW g d=c at hc1 ⊢
  repeat' (first|refine Rn.p ?_|(with_reducible apply And.intro)|((first|(refine hK _ ?_;clear hK K)|with_reducible intro K hK|refine Rs.p ?_|((with_reducible first|apply oP|apply oQ);exact rfl)|refine aa hX hC hP (lN g xX) rfl rfl rfl (by simp only [go_sem,simprocAttr,h0,hnl,hr,hnp]) rfl ?_|refine aa hX hC hP (mX d hp hls jK) rfl rfl rfl (by simp only [go_sem,simprocAttr,h0,hnl,hr,hnp]) rfl ?_);try simp only [go_sem,simprocAttr,h0,hnl,hr,hnp])|((with_reducible refine oD ?_ ?_);kernel_rfl)|((with_reducible intro h);try simp only [go_sem,simprocAttr,h0,hnl,hr,hnp] at h)|omega|intro h)
  refine ag (fun i:Nat=>i≤g.es.length∧∀j,j<i→om g d j=true) (fun i=>⟨[(2, .ptr 2 0),(3, .ptr 3 0),(6,eN i)], [(2, .box [eN g.n, .d (sE g.es)]),(3, .box [.d (sP d.pts), .d (sLn d.ls)])]⟩) (fun i=>g.es.length - i) 0 (by simp) ?_ ?_
  ·(refine Le.of ?_ ?_<;>simp [go_sem,simprocAttr,h0,hnl,hr,hnp])
  rintro i ⟨hi,h6⟩
  rcases Nat.lt_or_ge i g.es.length with hil|IM
  ·have hb:decide ((i:Int)<(g.es.length:Int))=true:=decide_eq_true (by omega)
   obtain ⟨⟨Gq,vR⟩,zx,tW⟩:=dX hm hil
   obtain ⟨h2,h8⟩:=hD.line hil
   have htn:(((d.ls.getD i []).length:Int) - 1).toNat=(d.ls.getD i []).length - 1:=by omega
   have hE:om g d i=(decide ((d.ls.getD i []).getD 0 (0,0)=d.pts.getD (g.es.getD i (0,0)).1.toNat (0,0))&&decide ((d.ls.getD i []).getD ((d.ls.getD i []).length - 1) (0,0)=d.pts.getD (g.es.getD i (0,0)).2.toNat (0,0))):=rfl
   repeat' (first|refine Rn.p ?_|(with_reducible apply And.intro)|((first|(refine hK _ ?_;clear hK K)|with_reducible intro K hK|refine Rs.p ?_|((with_reducible first|apply oP|apply oQ);exact rfl));try simp only [go_sem,simprocAttr,hb,htn,jI])|((with_reducible refine oD ?_ ?_);kernel_rfl)|((with_reducible intro h);try simp only [go_sem,simprocAttr,hb,htn,jI] at h)|omega|intro h)
   all_goals first
    |(have jy:om g d i=false:=(by rw [hE];simp only [Bool.and_eq_false_iff,decide_eq_false_iff_not];first|exact .inl (by assumption)|exact .inr (by assumption))
      have f6:=ga hil h6 jy
      have n0:c=(6,(i:Int)):=(by rw [hc1,if_pos (by omega),f6])
      rw [n0])
    |(refine ⟨i+1,⟨by omega,rz h6 (by rw [hE];simp only [Bool.and_eq_true,decide_eq_true_eq];exact ⟨by assumption,by assumption⟩)⟩, ?_,by omega⟩
      (refine Le.of ?_ ?_<;>simp [go_sem,simprocAttr,hb,htn,jI]))
  ·have hb:decide ((i:Int)<(g.es.length:Int))=false:=decide_eq_false (by omega)
   obtain rfl:i=g.es.length:=by omega
   have f6:=gh h6
   rw [if_neg (by omega)] at hc1
   repeat' (first|refine Rn.p ?_|(with_reducible apply And.intro)|((first|(refine hK _ ?_;clear hK K)|with_reducible intro K hK|refine Rs.p ?_|((with_reducible first|apply oP|apply oQ);exact rfl));try simp only [go_sem,simprocAttr,hb])|((with_reducible refine oD ?_ ?_);kernel_rfl)|((with_reducible intro h);try simp only [go_sem,simprocAttr,hb] at h)|omega|intro h)
   clear hb IM hi
   refine ag (fun i:Nat=>i≤g.es.length∧∀j,j<i→fF (d.ls.getD j [])=true) (fun i=>⟨[(2, .ptr 2 0),(3, .ptr 3 0),(8,eN i)], [(2, .box [eN g.n, .d (sE g.es)]),(3, .box [.d (sP d.pts), .d (sLn d.ls)])]⟩) (fun i=>g.es.length - i) 0 (by simp) ?_ ?_
   ·(refine Le.of ?_ ?_<;>simp [go_sem,simprocAttr])
   rintro i ⟨hi,h7⟩
   rcases Nat.lt_or_ge i g.es.length with hil|IM
   ·have hb:decide ((i:Int)<(g.es.length:Int))=true:=decide_eq_true (by omega)
    obtain ⟨l,hl⟩:∃l,l=d.ls.getD i []:=⟨_,rfl⟩
    have Sb:=hD.line hil
    rw [← hl] at Sb
    have ez:(eD l).length=l.length - 1:=eX
    repeat' (first|refine Rn.p ?_|(with_reducible apply And.intro)|((first|(refine hK _ ?_;clear hK K)|with_reducible intro K hK|refine Rs.p ?_|((with_reducible first|apply oP|apply oQ);exact rfl));try simp only [go_sem,simprocAttr,hb, ← hl])|((with_reducible refine oD ?_ ?_);kernel_rfl)|((with_reducible intro h);try simp only [go_sem,simprocAttr,hb, ← hl] at h)|omega|intro h)
    refine ag (fun k:Nat=>k≤(eD l).length∧((eD l).take k).any (fun q=>decide (q.2.2≤q.1.2))=false) (fun k=>⟨[(2, .ptr 2 0),(3, .ptr 3 0),(8,eN i),(9,eN ((k+1:Nat):Int))], [(2, .box [eN g.n, .d (sE g.es)]),(3, .box [.d (sP d.pts), .d (sLn d.ls)])]⟩) (fun k=>(eD l).length - k) 0 (by simp) ?_ ?_
    ·(refine Le.of ?_ ?_<;>simp [go_sem,simprocAttr,hb, ← hl])
    rintro k ⟨hk,hka⟩
    rcases Nat.lt_or_ge (k+1) l.length with cF|LO
    ·have aC:decide (((k+1:Nat):Int)<(l.length:Int))=true:=decide_eq_true (by omega)
     have QW:=qq cF
     have htn:(((k+1:Nat):Int) - 1).toNat=k:=by omega
     repeat' (first|refine Rn.p ?_|(with_reducible apply And.intro)|((first|(refine hK _ ?_;clear hK K)|with_reducible intro K hK|refine Rs.p ?_|((with_reducible first|apply oP|apply oQ);exact rfl));try simp only [go_sem,simprocAttr,aC,htn, ← hl])|((with_reducible refine oD ?_ ?_);kernel_rfl)|((with_reducible intro h);try simp only [go_sem,simprocAttr,aC,htn, ← hl] at h)|omega|intro h)
     ·have jy:fF (d.ls.getD i [])=false:=by
       rw [← hl,fF,mM (d:=((0,0),(0,0))) (k:=k) (by omega) (by rw [QW];exact decide_eq_true h)];rfl
      have f7:=ga (holds:=fun i=>fF (d.ls.getD i [])) hil h7 jy
      have n0:c=(7,(i:Int)):=by rw [hc1,if_pos (by omega),f7]
      rw [n0]
     ·have jy:fF (d.ls.getD i [])=false:=by
       rw [← hl,fF,mM (d:=((0,0),(0,0))) (k:=k) (by omega) (by rw [QW];exact decide_eq_true h)];rfl
      have f7:=ga (holds:=fun i=>fF (d.ls.getD i [])) hil h7 jy
      have n0:c=(7,(i:Int)):=by rw [hc1,if_pos (by omega),f7]
      rw [n0]
     ·refine ⟨k+1,⟨by omega,jm ((0,0),(0,0)) (by omega) hka (by rw [QW];exact decide_eq_false h)⟩, ?_,by omega⟩
      (refine Le.of ?_ ?_<;>simp [go_sem,simprocAttr,aC,htn, ← hl])
    ·have aC:decide (((k+1:Nat):Int)<(l.length:Int))=false:=decide_eq_false (by omega)
     rw [List.take_of_length_le (by omega)] at hka
     repeat' (first|refine Rn.p ?_|(with_reducible apply And.intro)|((first|(refine hK _ ?_;clear hK K)|with_reducible intro K hK|refine Rs.p ?_|((with_reducible first|apply oP|apply oQ);exact rfl));try simp only [go_sem,simprocAttr,aC, ← hl])|((with_reducible refine oD ?_ ?_);kernel_rfl)|((with_reducible intro h);try simp only [go_sem,simprocAttr,aC, ← hl] at h)|omega|intro h)
     refine ⟨i+1,⟨by omega,rz h7 (by rw [← hl,fF,hka];rfl)⟩, ?_,by omega⟩
     (refine Le.of ?_ ?_<;>simp [go_sem,simprocAttr,aC, ← hl])
   ·have hb:decide ((i:Int)<(g.es.length:Int))=false:=decide_eq_false (by omega)
    obtain rfl:i=g.es.length:=by omega
    have f7:=gh (holds:=fun i=>fF (d.ls.getD i [])) h7
    rw [if_neg (by omega)] at hc1
    repeat' (first|refine Rn.p ?_|(with_reducible apply And.intro)|((first|(refine hK _ ?_;clear hK K)|with_reducible intro K hK|refine Rs.p ?_|((with_reducible first|apply oP|apply oQ);exact rfl));try simp only [go_sem,simprocAttr,hb])|((with_reducible refine oD ?_ ?_);kernel_rfl)|((with_reducible intro h);try simp only [go_sem,simprocAttr,hb] at h)|omega|intro h)
    clear hb IM hi
    refine ag (fun x:Nat=>x≤d.pts.length∧∀j,j<x→dY d j=true) (fun x=>⟨[(2, .ptr 2 0),(3, .ptr 3 0),(10,eN x)], [(2, .box [eN g.n, .d (sE g.es)]),(3, .box [.d (sP d.pts), .d (sLn d.ls)])]⟩) (fun x=>d.pts.length - x) 0 (by simp) ?_ ?_
    ·(refine Le.of ?_ ?_<;>simp [go_sem,simprocAttr])
    rintro x ⟨hx,h8⟩
    rcases Nat.lt_or_ge x d.pts.length with hxl|OH
    ·have hb:decide ((x:Int)<g.n)=true:=decide_eq_true (by omega)
     repeat' (first|refine Rn.p ?_|(with_reducible apply And.intro)|((first|(refine hK _ ?_;clear hK K)|with_reducible intro K hK|refine Rs.p ?_|((with_reducible first|apply oP|apply oQ);exact rfl));try simp only [go_sem,simprocAttr,hb])|((with_reducible refine oD ?_ ?_);kernel_rfl)|((with_reducible intro h);try simp only [go_sem,simprocAttr,hb] at h)|omega|intro h)
     refine ag (fun z:Nat=>z≤x∧∀j,j<z→¬d.pts.getD x (0,0)=d.pts.getD j (0,0)) (fun z=>⟨[(2, .ptr 2 0),(3, .ptr 3 0),(10,eN x),(11,eN z)], [(2, .box [eN g.n, .d (sE g.es)]),(3, .box [.d (sP d.pts), .d (sLn d.ls)])]⟩) (fun z=>x - z) 0 (by simp) ?_ ?_
     ·(refine Le.of ?_ ?_<;>simp [go_sem,simprocAttr,hb])
     rintro z ⟨hz,Sc⟩
     rcases Nat.lt_or_ge z x with hzl|Sd
     ·have aC:decide ((z:Int)<(x:Int))=true:=decide_eq_true (by omega)
      repeat' (first|refine Rn.p ?_|(with_reducible apply And.intro)|((first|(refine hK _ ?_;clear hK K)|with_reducible intro K hK|refine Rs.p ?_|((with_reducible first|apply oP|apply oQ);exact rfl));try simp only [go_sem,simprocAttr,aC,jI])|((with_reducible refine oD ?_ ?_);kernel_rfl)|((with_reducible intro h);try simp only [go_sem,simprocAttr,aC,jI] at h)|omega|intro h)
      ·have jy:dY d x=false:=by
        have:d.pts.getD x (0,0)∈d.pts.take x:=by
         rw [h,List.mem_iff_getElem?]
         exact ⟨z,by rw [List.getElem?_take,if_pos hzl,List.getD_eq_getElem?_getD,List.getElem?_eq_getElem (by omega)];rfl⟩
        rw [dY,decide_eq_true this];rfl
       have f8:=ga hxl h8 jy
       have n0:c=(8,(x:Int)):=by rw [hc1,if_pos (by omega),f8]
       rw [n0]
      ·have jy:dY d x=false:=by
        have:d.pts.getD x (0,0)∈d.pts.take x:=by
         rw [h,List.mem_iff_getElem?]
         exact ⟨z,by rw [List.getElem?_take,if_pos hzl,List.getD_eq_getElem?_getD,List.getElem?_eq_getElem (by omega)];rfl⟩
        rw [dY,decide_eq_true this];rfl
       have f8:=ga hxl h8 jy
       have n0:c=(8,(x:Int)):=by rw [hc1,if_pos (by omega),f8]
       rw [n0]
      ·refine ⟨z+1,⟨by omega,rz Sc h⟩, ?_,by omega⟩
       (refine Le.of ?_ ?_<;>simp [go_sem,simprocAttr,aC,jI])
     ·have aC:decide ((z:Int)<(x:Int))=false:=decide_eq_false (by omega)
      have IU:dY d x=true:=by
       have:d.pts.getD x (0,0)∉d.pts.take x:=by
        rw [List.mem_iff_getElem?]
        rintro ⟨j,hj⟩
        rw [List.getElem?_take] at hj
        split at hj
        ·exact Sc j (by omega) (by rw [List.getD_eq_getElem?_getD (i:=j),hj];rfl)
        ·cases hj
       rw [dY,decide_eq_false this];rfl
      repeat' (first|refine Rn.p ?_|(with_reducible apply And.intro)|((first|(refine hK _ ?_;clear hK K)|with_reducible intro K hK|refine Rs.p ?_|((with_reducible first|apply oP|apply oQ);exact rfl));try simp only [go_sem,simprocAttr,aC])|((with_reducible refine oD ?_ ?_);kernel_rfl)|((with_reducible intro h);try simp only [go_sem,simprocAttr,aC] at h)|omega|intro h)
      refine ⟨x+1,⟨by omega,rz h8 IU⟩, ?_,by omega⟩
      (refine Le.of ?_ ?_<;>simp [go_sem,simprocAttr,aC])
    ·have hb:decide ((x:Int)<g.n)=false:=decide_eq_false (by omega)
     obtain rfl:x=d.pts.length:=by omega
     have f8:=gh h8
     rw [if_neg (by omega)] at hc1
     repeat' (first|refine Rn.p ?_|(with_reducible apply And.intro)|((first|(refine hK _ ?_;clear hK K)|with_reducible intro K hK|refine Rs.p ?_|((with_reducible first|apply oP|apply oQ);exact rfl));try simp only [go_sem,simprocAttr,hb])|((with_reducible refine oD ?_ ?_);kernel_rfl)|((with_reducible intro h);try simp only [go_sem,simprocAttr,hb] at h)|omega|intro h)
     clear hb OH hx
     refine ag (fun i:Nat=>i≤g.es.length∧∀j,j<i→jw g d j=true) (fun i=>⟨[(2, .ptr 2 0),(3, .ptr 3 0),(12,eN i)], [(2, .box [eN g.n, .d (sE g.es)]),(3, .box [.d (sP d.pts), .d (sLn d.ls)])]⟩) (fun i=>g.es.length - i) 0 (by simp) ?_ ?_
     ·(refine Le.of ?_ ?_<;>simp [go_sem,simprocAttr])
     rintro i ⟨hi,h9⟩
     rcases Nat.lt_or_ge i g.es.length with hil|IM
     ·have hb:decide ((i:Int)<(g.es.length:Int))=true:=decide_eq_true (by omega)
      have Sb:=hD.line hil
      have QX:(d.ls.getD i []).length≤1000000:=by omega
      repeat' (first|refine Rn.p ?_|(with_reducible apply And.intro)|((first|(refine hK _ ?_;clear hK K)|with_reducible intro K hK|refine Rs.p ?_|((with_reducible first|apply oP|apply oQ);exact rfl));try simp only [go_sem,simprocAttr,hb])|((with_reducible refine oD ?_ ?_);kernel_rfl)|((with_reducible intro h);try simp only [go_sem,simprocAttr,hb] at h)|omega|intro h)
      refine ag (fun x:Nat=>x≤d.pts.length∧mh g d i x=true) (fun x=>⟨[(2, .ptr 2 0),(3, .ptr 3 0),(12,eN i),(13,eN x)], [(2, .box [eN g.n, .d (sE g.es)]),(3, .box [.d (sP d.pts), .d (sLn d.ls)])]⟩) (fun x=>d.pts.length - x) 0 (by simp [mh]) ?_ ?_
      ·(refine Le.of ?_ ?_<;>simp [go_sem,simprocAttr,hb])
      rintro x ⟨hx,Se⟩
      rcases Nat.lt_or_ge x d.pts.length with hxl|OH
      ·have aC:decide ((x:Int)<g.n)=true:=decide_eq_true (by omega)
       have gJ:=uX (g:=g) (d:=d) (i:=i) (k:=x)
       rw [Se,Bool.true_and] at gJ
       repeat' (first|refine Rn.p ?_|(with_reducible apply And.intro)|((first|(refine hK _ ?_;clear hK K)|with_reducible intro K hK|refine Rs.p ?_|((with_reducible first|apply oP|apply oQ);exact rfl)|refine aa hX hC hP (Aj (d.ls.getD i []) (d.pts.getD x (0,0)) QX) rfl rfl rfl (by simp only [go_sem,simprocAttr,aC]) rfl ?_);try simp only [go_sem,simprocAttr,aC])|((with_reducible refine oD ?_ ?_);kernel_rfl)|((with_reducible intro h);try simp only [go_sem,simprocAttr,aC] at h)|omega|intro h)
       any_goals (
        have jy:jw g d i=false:=(by
         rw [jw,mh]
         refine qo hxl ?_
         simp only [*,decide_false,Bool.or_false,Bool.false_or,Bool.not_true])
        have f9:=ga hil h9 jy
        have n0:c=(9,(i:Int)):=(by rw [hc1,if_pos (by omega),f9])
        rw [n0]
        done)
       all_goals (
        refine ⟨x+1,⟨by omega, ?_⟩, ?_,by omega⟩
        ·rw [gJ];simp only [*,decide_true,Bool.true_or,Bool.or_true,Bool.not_false]
        ·(refine Le.of ?_ ?_<;>simp [go_sem,simprocAttr,aC]))
      ·have aC:decide ((x:Int)<g.n)=false:=decide_eq_false (by omega)
       obtain rfl:x=d.pts.length:=by omega
       repeat' (first|refine Rn.p ?_|(with_reducible apply And.intro)|((first|(refine hK _ ?_;clear hK K)|with_reducible intro K hK|refine Rs.p ?_|((with_reducible first|apply oP|apply oQ);exact rfl));try simp only [go_sem,simprocAttr,aC])|((with_reducible refine oD ?_ ?_);kernel_rfl)|((with_reducible intro h);try simp only [go_sem,simprocAttr,aC] at h)|omega|intro h)
       refine ⟨i+1,⟨by omega,rz h9 Se⟩, ?_,by omega⟩
       (refine Le.of ?_ ?_<;>simp [go_sem,simprocAttr,aC])
     ·have hb:decide ((i:Int)<(g.es.length:Int))=false:=decide_eq_false (by omega)
      obtain rfl:i=g.es.length:=by omega
      have f9:=gh h9
      rw [if_neg (by omega)] at hc1
      repeat' (first|refine Rn.p ?_|(with_reducible apply And.intro)|((first|(refine hK _ ?_;clear hK K)|with_reducible intro K hK|refine Rs.p ?_|((with_reducible first|apply oP|apply oQ);exact rfl));try simp only [go_sem,simprocAttr,hb])|((with_reducible refine oD ?_ ?_);kernel_rfl)|((with_reducible intro h);try simp only [go_sem,simprocAttr,hb] at h)|omega|intro h)
      clear hb IM hi
      refine ag (fun i:Nat=>i≤g.es.length∧∀j,j<i→fu g d j=true) (fun i=>⟨[(2, .ptr 2 0),(3, .ptr 3 0),(14,eN i)], [(2, .box [eN g.n, .d (sE g.es)]),(3, .box [.d (sP d.pts), .d (sLn d.ls)])]⟩) (fun i=>g.es.length - i) 0 (by simp) ?_ ?_
      ·(refine Le.of ?_ ?_<;>simp [go_sem,simprocAttr])
      rintro i ⟨hi,OI⟩
      rcases Nat.lt_or_ge i g.es.length with hil|IM
      ·have hb:decide ((i:Int)<(g.es.length:Int))=true:=decide_eq_true (by omega)
       repeat' (first|refine Rn.p ?_|(with_reducible apply And.intro)|((first|(refine hK _ ?_;clear hK K)|with_reducible intro K hK|refine Rs.p ?_|((with_reducible first|apply oP|apply oQ);exact rfl));try simp only [go_sem,simprocAttr,hb])|((with_reducible refine oD ?_ ?_);kernel_rfl)|((with_reducible intro h);try simp only [go_sem,simprocAttr,hb] at h)|omega|intro h)
       refine ag (fun k:Nat=>k≤i∧gV g d i k=true) (fun k=>⟨[(2, .ptr 2 0),(3, .ptr 3 0),(14,eN i),(15,eN k)], [(2, .box [eN g.n, .d (sE g.es)]),(3, .box [.d (sP d.pts), .d (sLn d.ls)])]⟩) (fun k=>i - k) 0 (by simp [gV]) ?_ ?_
       ·(refine Le.of ?_ ?_<;>simp [go_sem,simprocAttr,hb])
       rintro k ⟨hk,hka⟩
       rcases Nat.lt_or_ge k i with cF|LO
       ·have aC:decide ((k:Int)<(i:Int))=true:=decide_eq_true (by omega)
        have QY:k<g.es.length:=by omega
        have gJ:gV g d i (k+1)=(gV g d i k&& !uZ g d i k):=by rw [sG,uZ,Bool.not_not]
        repeat' (first|refine Rn.p ?_|(with_reducible apply And.intro)|((first|(refine hK _ ?_;clear hK K)|with_reducible intro K hK|refine Rs.p ?_|((with_reducible first|apply oP|apply oQ);exact rfl)|refine aa hX hC hP (wh g d hD i k hil QY) rfl rfl rfl (by simp only [go_sem,simprocAttr,aC]) rfl ?_);try simp only [go_sem,simprocAttr,aC])|((with_reducible refine oD ?_ ?_);kernel_rfl)|((with_reducible intro h);try simp only [go_sem,simprocAttr,aC] at h)|omega|intro h)
        ·have jy:fu g d i=false:=qo cF (by rw [uZ,Bool.not_eq_true'] at h;exact h)
         have f17:=ga hil OI jy
         have n0:c=(17,(i:Int)):=by rw [hc1,if_pos (by omega),f17]
         rw [n0]
        ·have jy:fu g d i=false:=qo cF (by rw [uZ,Bool.not_eq_true'] at h;exact h)
         have f17:=ga hil OI jy
         have n0:c=(17,(i:Int)):=by rw [hc1,if_pos (by omega),f17]
         rw [n0]
        ·refine ⟨k+1,⟨by omega,by rw [gJ,hka,h];rfl⟩, ?_,by omega⟩
         (refine Le.of ?_ ?_<;>simp [go_sem,simprocAttr,aC])
       ·have aC:decide ((k:Int)<(i:Int))=false:=decide_eq_false (by omega)
        obtain rfl:k=i:=by omega
        repeat' (first|refine Rn.p ?_|(with_reducible apply And.intro)|((first|(refine hK _ ?_;clear hK K)|with_reducible intro K hK|refine Rs.p ?_|((with_reducible first|apply oP|apply oQ);exact rfl));try simp only [go_sem,simprocAttr,aC])|((with_reducible refine oD ?_ ?_);kernel_rfl)|((with_reducible intro h);try simp only [go_sem,simprocAttr,aC] at h)|omega|intro h)
        refine ⟨k+1,⟨by omega,rz OI hka⟩, ?_,by omega⟩
        (refine Le.of ?_ ?_<;>simp [go_sem,simprocAttr,aC])
      ·have hb:decide ((i:Int)<(g.es.length:Int))=false:=decide_eq_false (by omega)
       obtain rfl:i=g.es.length:=by omega
       have f17:=gh OI
       rw [if_neg (by omega)] at hc1
       repeat' (first|refine Rn.p ?_|(with_reducible apply And.intro)|((first|(refine hK _ ?_;clear hK K)|with_reducible intro K hK|refine Rs.p ?_|((with_reducible first|apply oP|apply oQ);exact rfl));try simp only [go_sem,simprocAttr,hb])|((with_reducible refine oD ?_ ?_);kernel_rfl)|((with_reducible intro h);try simp only [go_sem,simprocAttr,hb] at h)|omega|intro h)
       all_goals rw [hc1]
end Go.Ab
end
section
namespace Go.Ab
open Go.Proofs
attribute [local congr] ACall.congr gd.congr Nx.congr
set_option maxRecDepth 10000
set_option maxHeartbeats 8000000
def mY (g:Gr) (d:Dr):Bool:=decide (40<g.es.length)||decide (70<d.pts.length)||decide (50<d.ls.length)||d.ls.any fun l=>decide (20<l.length)
theorem sJ (g:Gr) (d:Dr) (hls:d.ls.length≤9223372036854775807):Spec Tryz.prog 22 (Args [eG g,eDr d]) [] (eB (mY g d)) []:=by
 (refine Spec.hd (C:=T.cfg [] []) (rs:= [.t 4]) (T.ah _ _) Tryz.func22 rfl rfl Tryz.ntmps22 Tryz.results22 (by simp [AObj.isNest]) (by simp [AObj.isNest]) (by kernel_rfl) T.mixed fun X hX hP hC aB bK=> ?_)
 by_cases h1:40<g.es.length
 ·have hb:decide ((40:Int)<(g.es.length:Int))=true:=decide_eq_true (by omega)
  repeat' (first|refine Rn.p ?_|(with_reducible apply And.intro)|((first|(refine hK _ ?_;clear hK K)|with_reducible intro K hK|refine Rs.p ?_|((with_reducible first|apply oP|apply oQ);exact rfl));try simp only [go_sem,simprocAttr,hb])|((with_reducible refine oD ?_ ?_);kernel_rfl)|((with_reducible intro h);try simp only [go_sem,simprocAttr,hb] at h)|omega|intro h)
  simp only [mY,decide_eq_true h1,Bool.true_or]
 by_cases h2:70<d.pts.length
 ·have hb:decide ((40:Int)<(g.es.length:Int))=false:=decide_eq_false (by omega)
  have aI:decide ((70:Int)<(d.pts.length:Int))=true:=decide_eq_true (by omega)
  repeat' (first|refine Rn.p ?_|(with_reducible apply And.intro)|((first|(refine hK _ ?_;clear hK K)|with_reducible intro K hK|refine Rs.p ?_|((with_reducible first|apply oP|apply oQ);exact rfl));try simp only [go_sem,simprocAttr,hb,aI])|((with_reducible refine oD ?_ ?_);kernel_rfl)|((with_reducible intro h);try simp only [go_sem,simprocAttr,hb,aI] at h)|omega|intro h)
  simp only [mY,decide_eq_true h2,Bool.true_or,Bool.or_true]
 by_cases h3:50<d.ls.length
 ·have hb:decide ((40:Int)<(g.es.length:Int))=false:=decide_eq_false (by omega)
  have aI:decide ((70:Int)<(d.pts.length:Int))=false:=decide_eq_false (by omega)
  have cU:decide ((50:Int)<(d.ls.length:Int))=true:=decide_eq_true (by omega)
  repeat' (first|refine Rn.p ?_|(with_reducible apply And.intro)|((first|(refine hK _ ?_;clear hK K)|with_reducible intro K hK|refine Rs.p ?_|((with_reducible first|apply oP|apply oQ);exact rfl));try simp only [go_sem,simprocAttr,hb,aI,cU])|((with_reducible refine oD ?_ ?_);kernel_rfl)|((with_reducible intro h);try simp only [go_sem,simprocAttr,hb,aI,cU] at h)|omega|intro h)
  simp only [mY,decide_eq_true h3,Bool.true_or,Bool.or_true]
 have hb:decide ((40:Int)<(g.es.length:Int))=false:=decide_eq_false (by omega)
 have aI:decide ((70:Int)<(d.pts.length:Int))=false:=decide_eq_false (by omega)
 have cU:decide ((50:Int)<(d.ls.length:Int))=false:=decide_eq_false (by omega)
 have hG:mY g d=d.ls.any fun l=>decide (20<l.length):=by simp only [mY,decide_eq_false h1,decide_eq_false h2,decide_eq_false h3,Bool.false_or]
 rw [hG]
 repeat' (first|refine Rn.p ?_|(with_reducible apply And.intro)|((first|(refine hK _ ?_;clear hK K)|with_reducible intro K hK|refine Rs.p ?_|((with_reducible first|apply oP|apply oQ);exact rfl));try simp only [go_sem,simprocAttr,hb,aI,cU])|((with_reducible refine oD ?_ ?_);kernel_rfl)|((with_reducible intro h);try simp only [go_sem,simprocAttr,hb,aI,cU] at h)|omega|intro h)
 refine ag (fun k:Nat=>k≤d.ls.length∧(d.ls.take k).any (fun l=>decide (20<l.length))=false) (fun k=>⟨[(24, .d (sLn d.ls)),(25,eN d.ls.length),(26,eN k)], []⟩) (fun k=>d.ls.length - k) 0 (by simp) ?_ ?_
 ·(refine Le.of ?_ ?_<;>simp [go_sem,simprocAttr,hb,aI,cU])
 rintro k ⟨hk,hf⟩
 rcases Nat.lt_or_ge k d.ls.length with hlt|hge
 ·have hb4:decide ((k:Int)<(d.ls.length:Int))=true:=decide_eq_true (by omega)
  repeat' (first|refine Rn.p ?_|(with_reducible apply And.intro)|((first|(refine hK _ ?_;clear hK K)|with_reducible intro K hK|refine Rs.p ?_|((with_reducible first|apply oP|apply oQ);exact rfl));try simp only [go_sem,simprocAttr,hb4])|((with_reducible refine oD ?_ ?_);kernel_rfl)|((with_reducible intro h);try simp only [go_sem,simprocAttr,hb4] at h)|omega|intro h)
  ·exact (mM (d:= []) hlt (decide_eq_true (by omega))).symm
  ·refine ⟨k+1,⟨by omega,jm [] hlt hf (decide_eq_false (by omega))⟩, ?_,by omega⟩
   (refine ⟨bD ?_,fun _ _ h=>h⟩;simp [go_sem,simprocAttr,hb4])
 ·have hb4:decide ((k:Int)<(d.ls.length:Int))=false:=decide_eq_false (by omega)
  rw [List.take_of_length_le hge] at hf
  repeat' (first|refine Rn.p ?_|(with_reducible apply And.intro)|((first|(refine hK _ ?_;clear hK K)|with_reducible intro K hK|refine Rs.p ?_|((with_reducible first|apply oP|apply oQ);exact rfl));try simp only [go_sem,simprocAttr,hb4])|((with_reducible refine oD ?_ ?_);kernel_rfl)|((with_reducible intro h);try simp only [go_sem,simprocAttr,hb4] at h)|omega|intro h)
  exact hf.symm
def gp:Gr:=⟨2, [(0,1)]⟩
def da:Dr:=⟨[(0,0),(0,1)], [[(0,0),(0,1)]]⟩
def db:Dr:=⟨[(0,1),(0,0)], [[(0,1),(0,0)]]⟩
theorem KY:gW gp da=(0,0):=by decide
theorem KZ:gW gp db=(7,0):=by decide
theorem ew:Spec Tryz.prog 21 (Args []) [] (eB true) []:=by
 have h1:=KY
 have h2:=KZ
 simp only [gp,da,db] at h1 h2
 (refine Spec.hd (C:=T.cfg [] []) (rs:= [.t 0]) (T.ah _ _) Tryz.func21 rfl rfl Tryz.ntmps21 Tryz.results21 (by simp [AObj.isNest]) (by simp [AObj.isNest]) (by kernel_rfl) T.mixed fun X hX hP hC aB bK=> ?_)
 repeat' (first|refine Rn.p ?_|(with_reducible apply And.intro)|((first|(refine hK _ ?_;clear hK K)|with_reducible intro K hK|refine Rs.p ?_|((with_reducible first|apply oP|apply oQ);exact rfl)|(refine aq hX hC hP (dw gp da (by decide) (by decide) (by decide) (by decide)) rfl rfl rfl ?_ ?_ rfl ?_;iterate 2 (focus (simp only [go_sem,simprocAttr,gp,da,db,rE,rP,vP,h1,h2];done)))|(refine aq hX hC hP (dw gp db (by decide) (by decide) (by decide) (by decide)) rfl rfl rfl ?_ ?_ rfl ?_;iterate 2 (focus (simp only [go_sem,simprocAttr,gp,da,db,rE,rP,vP,h1,h2];done))));try simp only [go_sem,simprocAttr,gp,da,db,rE,rP,vP,h1,h2])|((with_reducible refine oD ?_ ?_);kernel_rfl)|((with_reducible intro h);try simp only [go_sem,simprocAttr,gp,da,db,rE,rP,vP,h1,h2] at h)|omega|intro h)
end Go.Ab
end
section
namespace Go.Ab
def BO (a b m:Pt):Prop:=a.1+b.1=2*m.1∧a.2+b.2=2*m.2
theorem BO.tm {a b m:Pt} (h:BO a b m) (c d:Pt):tm a b c d=2*tm a m c d:=by
 obtain ⟨h1,h2⟩:=h
 have e1:b.1=2*m.1 - a.1:=by omega
 have e2:b.2=2*m.2 - a.2:=by omega
 unfold Go.Ab.tm;rw [e1,e2];grind
theorem BO.along {a b m:Pt} (h:BO a b m) (c:Pt):an a b c=2*an a m c:=by
 obtain ⟨h1,h2⟩:=h
 have e1:b.1=2*m.1 - a.1:=by omega
 have e2:b.2=2*m.2 - a.2:=by omega
 unfold an;rw [e1,e2];grind
theorem BO.symm {a b m:Pt} (h:BO a b m):BO b a m:=⟨by rw [Int.add_comm];exact h.1,by rw [Int.add_comm];exact h.2⟩
def Sf (l:List Pt) (k:Nat) (m:Pt):List Pt:=l.take (k+1)++m::l.drop (k+1)
theorem yG {l:List Pt} {q:Pc} :q∈eD l↔∃j,j+1<l.length∧q=(l.getD j (0,0),l.getD (j+1) (0,0)):=by
 simp only [eD,GJ,List.mem_map,List.mem_range]
 constructor
 ·rintro ⟨j,h,rfl⟩;exact ⟨j,by omega,rfl⟩
 ·rintro ⟨j,h,rfl⟩;exact ⟨j,by omega,rfl⟩
theorem bL {n:Nat} {holds:Nat→Bool} :¬0≤bG n holds↔∀j,j<n→holds j=true:=by
 constructor
 ·intro h j hj
  cases hq:holds j with
  |true=>rfl
  |false=>
   exfalso
   have h1:=cT (fun i=> !holds i) (List.range n)
   have h2:(List.range n).any (fun i=> !holds i)=true:=List.any_eq_true.2 ⟨j,List.mem_range.2 hj,by rw [hq];rfl⟩
   rw [h2] at h1
   exact h (of_decide_eq_true h1)
 ·intro h
  rw [gh h];omega
structure rC (g:Gr) (d:Dr):Prop where
 fit:fz g d=true
 uV:dH d=true
 ends:∀i,i<g.es.length→om g d i=true
 BP:∀i,i<g.es.length→fF (d.ls.getD i [])=true
 alone:∀x,x<d.pts.length→dY d x=true
 free:∀i,i<g.es.length→jw g d i=true
 apart:∀i,i<g.es.length→fu g d i=true
theorem u6 {g:Gr} {d:Dr} :(gW g d).1=0↔rC g d:=by
 unfold gW
 constructor
 ·intro h
  split at h
  ·cases h
  rename_i h1
  split at h
  ·cases h
  rename_i h2
  split at h
  ·cases h
  rename_i h3
  split at h
  ·cases h
  rename_i h4
  split at h
  ·cases h
  rename_i h5
  split at h
  ·cases h
  rename_i h6
  split at h
  ·cases h
  rename_i h7
  exact ⟨by simpa using h1,by simpa using h2,bL.1 h3,bL.1 h4,bL.1 h5,bL.1 h6,bL.1 h7⟩
 ·intro h
  rw [if_neg (by rw [h.fit];simp),if_neg (by rw [h.uV];simp),if_neg (bL.2 h.ends),if_neg (bL.2 h.BP),if_neg (bL.2 h.alone),if_neg (bL.2 h.free),if_neg (bL.2 h.apart)]
theorem rC.may {g:Gr} {d:Dr} (h:rC g d):aX g=true:=by
 have:=h.fit
 simp only [fz,Bool.and_eq_true,decide_eq_true_eq] at this
 exact uY this.1.1
theorem rC.ok {g:Gr} {d:Dr} (h:rC g d):ry g d:=by
 have:=h.fit
 simp only [fz,Bool.and_eq_true,decide_eq_true_eq] at this
 exact ⟨h.may,this.1.2,this.2,o7 h.uV⟩
theorem rC.Sg {g:Gr} {d:Dr} (h:rC g d) {i:Nat} (hi:i<g.es.length):∀p∈d.ls.getD i [],bn p:=by
 intro p hp
 have h1:=h.uV
 simp only [dH,Bool.and_eq_true,Bool.not_eq_true'] at h1
 have h2:=(List.any_eq_false.1 h1.2) _ (aD (d:= []) (show i<d.ls.length by rw [h.ok.nl];exact hi))
 have h3:(d.ls.getD i []).any jZ=false:=by
  cases hq:(d.ls.getD i []).any jZ with
  |false=>rfl
  |true=>exact absurd (by simp only [iB,hq,Bool.or_true]) h2
 have h4:=(List.any_eq_false.1 h3) p hp
 rw [qj] at h4
 simpa using h4
theorem rC.piece {g:Gr} {d:Dr} (h:rC g d) {i:Nat} (hi:i<g.es.length) {q:Pc} (hq:q∈eD (d.ls.getD i [])):bn q.1∧bn q.2∧q.1.2<q.2.2∧q.1≠q.2:=by
 have h1:=h.BP i hi
 simp only [fF,Bool.not_eq_true'] at h1
 have h2:=(List.any_eq_false.1 h1) q hq
 simp only [decide_eq_true_eq] at h2
 obtain ⟨j,hj,rfl⟩:=yG.1 hq
 refine ⟨h.Sg hi _ (aD (by omega)),h.Sg hi _ (aD hj),by omega,fun e=> ?_⟩
 simp only at e h2
 rw [e] at h2;exact h2 (Int.le_refl _)
theorem rC.bad {g:Gr} {d:Dr} (h:rC g d) {i k:Nat} (hi:i<g.es.length) (hk:k<i) {a b:Pc} (ha:a∈eD (d.ls.getD i [])) (hb:b∈eD (d.ls.getD k [])):fG (eC g d i k) a b=false:=by
 have h1:=h.apart i hi
 simp only [fu,gV,List.all_eq_true,List.mem_range,Bool.not_eq_true'] at h1
 exact h1 k hk a ha b hb
end Go.Ab
end
