/- A part of the proof. -/
import Derived.Test.YtchjjbfhlchpfaaGreatL10P11
set_option linter.unusedSimpArgs false
set_option linter.unusedVariables false
section
namespace Go.Ab
open Go.Proofs
attribute [local congr] ACall.congr gd.congr Nx.congr
set_option maxRecDepth 10000
set_option maxHeartbeats 4000000
theorem oU {l:List Pt} {k:Nat} (h:k+1<l.length):(eS l).getD k ((0,0),(0,0))=(l.getD k (0,0),l.getD (k+1) (0,0)):=by
 simp only [eS,EZ]
 rw [List.getD_eq_getElem?_getD,List.getElem?_map,List.getElem?_range (by omega)];rfl
theorem gF (a b c:Pt):Spec Tryz.prog 106 (Args [eP a,eP b,eP c]) [] (eB (oz a b c)) []:=by
 rw [← Gp];exact aV a b c
theorem xY (l:List Pt) (p:Pt) (hl:l.length≤1000000):Spec Tryz.prog 54 (Args [.d (sP l),eP p]) [] (eB (Ht l p)) []:=by
 have fH:(eS l).length=l.length - 1:=ef
 (refine Spec.hd (C:=T.cfg [] []) (rs:= [.t 4]) (T.ai _ _) Tryz.func54 rfl rfl Tryz.ntmps54 Tryz.results54 (by simp [AObj.isNest]) (by simp [AObj.isNest]) (by kernel_rfl) T.mixed fun X hX hP hC aF bY=> ?_)
 repeat' (first|refine Rn.p ?_|(with_reducible apply And.intro)|((first|(refine hK _ ?_;clear hK K)|with_reducible intro K hK|refine Rs.p ?_|((with_reducible first|apply oP|apply oQ);exact rfl)|refine aa hX hC hP (gF (l.getD k (0,0)) (l.getD (k+1) (0,0)) p) rfl rfl rfl (by simp only [go_sem,simprocAttr]) rfl ?_);try simp only [go_sem,simprocAttr])|((with_reducible refine oD ?_ ?_);kernel_rfl)|((with_reducible intro h);try simp only [go_sem,simprocAttr] at h)|omega|intro h)
 refine ag (fun k:Nat=>k≤(eS l).length∧((eS l).take k).any (fun q=>oz q.1 q.2 p)=false) (fun k=>⟨[(0, .d (sP l)),(3, .ptr 3 0),(5,eN k)], [(3, .box [eN p.1,eN p.2])]⟩) (fun k=>(eS l).length - k) 0 (by simp) ?_ ?_
 ·(refine Le.of ?_ ?_<;>simp [go_sem,simprocAttr])
 rintro k ⟨hk,hf⟩
 rcases Nat.lt_or_ge (k+1) l.length with hlt|hge
 ·have hb:decide ((k:Int)+1<(l.length:Int))=true:=decide_eq_true (by omega)
  have hg:=oU hlt
  have ht:(k:Int)+1=((k+1:Nat):Int):=rfl
  have htn:((k:Int)+1).toNat=k+1:=by omega
  repeat' (first|refine Rn.p ?_|(with_reducible apply And.intro)|((first|(refine hK _ ?_;clear hK K)|with_reducible intro K hK|refine Rs.p ?_|((with_reducible first|apply oP|apply oQ);exact rfl)|refine aa hX hC hP (gF (l.getD k (0,0)) (l.getD (k+1) (0,0)) p) rfl rfl rfl (by simp only [go_sem,simprocAttr,hb,htn]) rfl ?_);try simp only [go_sem,simprocAttr,hb,htn])|((with_reducible refine oD ?_ ?_);kernel_rfl)|((with_reducible intro h);try simp only [go_sem,simprocAttr,hb,htn] at h)|omega|intro h)
  ·rw [Ht,lB (d:=((0,0),(0,0))) (k:=k) (by omega) (by rw [hg];exact h)]
  ·refine ⟨k+1,⟨by omega,iA ((0,0),(0,0)) (by omega) hf (by rw [hg];exact h)⟩, ?_,by omega⟩
   (refine Le.of ?_ ?_<;>simp [go_sem,simprocAttr,hb,htn])
 ·have hb:decide ((k:Int)+1<(l.length:Int))=false:=decide_eq_false (by omega)
  rw [List.take_of_length_le (by omega)] at hf
  repeat' (first|refine Rn.p ?_|(with_reducible apply And.intro)|((first|(refine hK _ ?_;clear hK K)|with_reducible intro K hK|refine Rs.p ?_|((with_reducible first|apply oP|apply oQ);exact rfl)|refine aa hX hC hP (gF (l.getD k (0,0)) (l.getD (k+1) (0,0)) p) rfl rfl rfl (by simp only [go_sem,simprocAttr,hb]) rfl ?_);try simp only [go_sem,simprocAttr,hb])|((with_reducible refine oD ?_ ?_);kernel_rfl)|((with_reducible intro h);try simp only [go_sem,simprocAttr,hb] at h)|omega|intro h)
  exact hf.symm
theorem DY (p:Pt):decide (bJ p)= !lH p:=by rw [vJ,Bool.not_not]
theorem oV (p:Pt):Spec Tryz.prog 105 (Args [eP p]) [] (eB (!lH p)) []:=by
 rw [← DY];exact kg p
theorem lK (d:Dr) (hp:d.pts.length≤1000) (hls:d.ls.length≤1000) (pM:∀l∈d.ls,l.length≤1000):Spec Tryz.prog 53 (Args [eDr d]) [] (eB (eC d)) []:=by
 (refine Spec.hd (C:=T.cfg [] []) (rs:= [.t 2]) (T.ai _ _) Tryz.func53 rfl rfl Tryz.ntmps53 Tryz.results53 (by simp [AObj.isNest]) (by simp [AObj.isNest]) (by kernel_rfl) T.mixed fun X hX hP hC aF bY=> ?_)
 repeat' (first|refine Rn.p ?_|(with_reducible apply And.intro)|((first|(refine hK _ ?_;clear hK K)|with_reducible intro K hK|refine Rs.p ?_|((with_reducible first|apply oP|apply oQ);exact rfl));try simp only [go_sem,simprocAttr])|((with_reducible refine oD ?_ ?_);kernel_rfl)|((with_reducible intro h);try simp only [go_sem,simprocAttr] at h)|omega|intro h)
 refine ag (fun k:Nat=>k≤d.pts.length∧(d.pts.take k).any lH=false) (fun k=>⟨[(1, .ptr 1 0),(3,eN k)], [(1, .box [.d (sP d.pts), .d (sLn d.ls)])]⟩) (fun k=>d.pts.length - k) 0 (by simp) ?_ ?_
 ·(refine Le.of ?_ ?_<;>simp [go_sem,simprocAttr])
 rintro k ⟨hk,hf⟩
 rcases Nat.lt_or_ge k d.pts.length with hlt|hge
 ·have hb:decide ((k:Int)<(d.pts.length:Int))=true:=decide_eq_true (by omega)
  repeat' (first|refine Rn.p ?_|(with_reducible apply And.intro)|((first|(refine hK _ ?_;clear hK K)|with_reducible intro K hK|refine Rs.p ?_|((with_reducible first|apply oP|apply oQ);exact rfl)|refine aa hX hC hP (oV (d.pts.getD k (0,0))) rfl rfl rfl (by simp only [go_sem,simprocAttr,hb]) rfl ?_);try simp only [go_sem,simprocAttr,hb])|((with_reducible refine oD ?_ ?_);kernel_rfl)|((with_reducible intro h);try simp only [go_sem,simprocAttr,hb] at h)|omega|intro h)
  ·rw [eC,lB (d:=(0,0)) (k:=k) hlt h];rfl
  ·refine ⟨k+1,⟨by omega,iA (0,0) hlt hf h⟩, ?_,by omega⟩
   (refine Le.of ?_ ?_<;>simp [go_sem,simprocAttr,hb])
 ·have hb:decide ((k:Int)<(d.pts.length:Int))=false:=decide_eq_false (by omega)
  rw [List.take_of_length_le hge] at hf
  repeat' (first|refine Rn.p ?_|(with_reducible apply And.intro)|((first|(refine hK _ ?_;clear hK K)|with_reducible intro K hK|refine Rs.p ?_|((with_reducible first|apply oP|apply oQ);exact rfl));try simp only [go_sem,simprocAttr,hb])|((with_reducible refine oD ?_ ?_);kernel_rfl)|((with_reducible intro h);try simp only [go_sem,simprocAttr,hb] at h)|omega|intro h)
  refine ag (fun k:Nat=>k≤d.ls.length∧(d.ls.take k).any iH=false) (fun k=>⟨[(1, .ptr 1 0),(4,eN k)], [(1, .box [.d (sP d.pts), .d (sLn d.ls)])]⟩) (fun k=>d.ls.length - k) 0 (by simp) ?_ ?_
  ·(refine Le.of ?_ ?_<;>simp [go_sem,simprocAttr,hb])
  clear hk hge hb
  rintro k ⟨hk,Hg⟩
  rcases Nat.lt_or_ge k d.ls.length with hlt|hge
  ·have hb:decide ((k:Int)<(d.ls.length:Int))=true:=decide_eq_true (by omega)
   obtain ⟨l,hl⟩:∃l,l=d.ls.getD k []:=⟨_,rfl⟩
   have hlen:l.length≤1000:=pM l (by rw [hl];exact aO hlt)
   have hno:iH l=true→eC d=false:=fun hb=>by
    rw [eC,lB (xs:=d.ls) (d:= []) (k:=k) hlt (by rw [← hl];exact hb),Bool.not_true,Bool.and_false]
   repeat' (first|refine Rn.p ?_|(with_reducible apply And.intro)|((first|(refine hK _ ?_;clear hK K)|with_reducible intro K hK|refine Rs.p ?_|((with_reducible first|apply oP|apply oQ);exact rfl));try simp only [go_sem,simprocAttr,hb, ← hl])|((with_reducible refine oD ?_ ?_);kernel_rfl)|((with_reducible intro h);try simp only [go_sem,simprocAttr,hb, ← hl] at h)|omega|intro h)
   ·refine (hno ?_).symm
    simp only [iH,decide_eq_true (show 8<l.length by omega),Bool.or_true,Bool.true_or]
   ·refine ag (fun j:Nat=>j≤l.length∧(l.take j).any lH=false) (fun j=>⟨[(1, .ptr 1 0),(4,eN k),(5,eN j)], [(1, .box [.d (sP d.pts), .d (sLn d.ls)])]⟩) (fun j=>l.length - j) 0 (by simp) ?_ ?_
    ·(refine Le.of ?_ ?_<;>simp [go_sem,simprocAttr,hb, ← hl])
    rintro j ⟨hj,Ms⟩
    rcases Nat.lt_or_ge j l.length with hjl|Mr
    ·have cQ:decide ((j:Int)<(l.length:Int))=true:=decide_eq_true (by omega)
     repeat' (first|refine Rn.p ?_|(with_reducible apply And.intro)|((first|(refine hK _ ?_;clear hK K)|with_reducible intro K hK|refine Rs.p ?_|((with_reducible first|apply oP|apply oQ);exact rfl)|refine aa hX hC hP (oV (l.getD j (0,0))) rfl rfl rfl (by simp only [go_sem,simprocAttr, ← hl,cQ]) rfl ?_);try simp only [go_sem,simprocAttr, ← hl,cQ])|((with_reducible refine oD ?_ ?_);kernel_rfl)|((with_reducible intro h);try simp only [go_sem,simprocAttr, ← hl,cQ] at h)|omega|intro h)
     ·refine (hno ?_).symm
      rw [iH,lB (d:=(0,0)) (k:=j) hjl h,Bool.or_true]
     ·refine ⟨j+1,⟨by omega,iA (0,0) hjl Ms h⟩, ?_,by omega⟩
      (refine Le.of ?_ ?_<;>simp [go_sem,simprocAttr, ← hl,cQ])
    ·have cQ:decide ((j:Int)<(l.length:Int))=false:=decide_eq_false (by omega)
     rw [List.take_of_length_le Mr] at Ms
     have FI:iH l=false:=by
      simp only [iH,decide_eq_false (show ¬l.length<2 by omega),decide_eq_false (show ¬8<l.length by omega),Ms,Bool.or_false]
     repeat' (first|refine Rn.p ?_|(with_reducible apply And.intro)|((first|(refine hK _ ?_;clear hK K)|with_reducible intro K hK|refine Rs.p ?_|((with_reducible first|apply oP|apply oQ);exact rfl));try simp only [go_sem,simprocAttr, ← hl,cQ])|((with_reducible refine oD ?_ ?_);kernel_rfl)|((with_reducible intro h);try simp only [go_sem,simprocAttr, ← hl,cQ] at h)|omega|intro h)
     refine ⟨k+1,⟨by omega,iA [] hlt Hg (by rw [← hl];exact FI)⟩, ?_,by omega⟩
     (refine Le.of ?_ ?_<;>simp [go_sem,simprocAttr, ← hl,cQ])
   ·refine (hno ?_).symm
    simp only [iH,decide_eq_true (show l.length<2 by omega),Bool.true_or]
  ·have hb:decide ((k:Int)<(d.ls.length:Int))=false:=decide_eq_false (by omega)
   rw [List.take_of_length_le hge] at Hg
   repeat' (first|refine Rn.p ?_|(with_reducible apply And.intro)|((first|(refine hK _ ?_;clear hK K)|with_reducible intro K hK|refine Rs.p ?_|((with_reducible first|apply oP|apply oQ);exact rfl));try simp only [go_sem,simprocAttr,hb])|((with_reducible refine oD ?_ ?_);kernel_rfl)|((with_reducible intro h);try simp only [go_sem,simprocAttr,hb] at h)|omega|intro h)
   rw [eC,hf,Hg];rfl
def vX (g:Gr) (d:Dr) (i k:Nat) (a b:Pc) (m:Nat):Bool:=(List.range m).any fun x=>(decide ((g.es.getD i (0,0)).1=(x:Int))||decide ((g.es.getD i (0,0)).2=(x:Int)))&&(decide ((g.es.getD k (0,0)).1=(x:Int))||decide ((g.es.getD k (0,0)).2=(x:Int)))&&oz a.1 a.2 (d.pts.getD x (0,0))&&oz b.1 b.2 (d.pts.getD x (0,0))
theorem BL {g:Gr} {d:Dr} {i k:Nat} {a b:Pc} {m:Nat} :vX g d i k a b (m+1)=(vX g d i k a b m||((decide ((g.es.getD i (0,0)).1=(m:Int))||decide ((g.es.getD i (0,0)).2=(m:Int)))&&(decide ((g.es.getD k (0,0)).1=(m:Int))||decide ((g.es.getD k (0,0)).2=(m:Int)))&&oz a.1 a.2 (d.pts.getD m (0,0))&&oz b.1 b.2 (d.pts.getD m (0,0)))):=by
 simp [vX,List.range_succ]
theorem DZ {g:Gr} {d:Dr} (hD:qz g d) {i k:Nat} (hi:i<g.es.length) (a b:Pc):vX g d i k a b g.n.toNat=(gb g d i k).any fun p=>oz a.1 a.2 p&&oz b.1 b.2 p:=by
 obtain ⟨⟨Dz,pg⟩,vm,rz⟩:=dZ hD.may hi
 rw [Bool.eq_iff_iff]
 simp only [vX,List.any_eq_true,List.mem_range,Bool.and_eq_true,Bool.or_eq_true,decide_eq_true_eq,gb,oS,List.mem_map,List.mem_filter,DT]
 constructor
 ·rintro ⟨x,hx,⟨⟨h1,h2⟩,h3⟩,h4⟩
  refine ⟨_,⟨(x:Int),⟨by simp only [List.take_succ_cons,List.take_zero,List.mem_cons,List.not_mem_nil,or_false];omega,by omega⟩,by rw [Int.toNat_natCast]⟩,h3,h4⟩
 ·rintro ⟨p,⟨x,⟨h1,h2⟩,rfl⟩,h3,h4⟩
  simp only [List.take_succ_cons,List.take_zero,List.mem_cons,List.not_mem_nil,or_false] at h1
  refine ⟨x.toNat,by omega,⟨⟨by omega,by omega⟩,h3⟩,h4⟩
theorem xZ (a b c d:Pt):0≤fP a b c d∧fP a b c d≤2:=by
 unfold fP
 split
 ·split
  ·omega
  ·split<;>omega
 ·omega
theorem tW (a b c d:Pt):Spec Tryz.prog 107 (Args [eP a,eP b,eP c,eP d]) [] (eN (fP a b c d)) []:=by
 rw [← AA];exact vM a b c d
def sW (g:Gr) (d:Dr) (i k:Nat):Bool:= !(eS (d.ls.getD i [])).all fun a=>(eS (d.ls.getD k [])).all fun b=> !fS (gb g d i k) a b
theorem tX (g:Gr) (d:Dr) (hD:qz g d) (i k:Nat) (hi:i<g.es.length) (hk:k<g.es.length):Spec Tryz.prog 55 (Args [eG g,eDr d,eN i,eN k]) [] (eB (sW g d i k)) []:=by
 have hn:=bM hD.may
 have hnp:=hD.np
 have hnl:=hD.nl
 obtain ⟨li,sX⟩:∃l,l=d.ls.getD i []:=⟨_,rfl⟩
 obtain ⟨lk,hlk⟩:∃l,l=d.ls.getD k []:=⟨_,rfl⟩
 have hi2:=hD.line hi
 have hk2:=hD.line hk
 rw [← sX] at hi2
 rw [← hlk] at hk2
 have hpi:(eS li).length=li.length - 1:=ef
 have hpk:(eS lk).length=lk.length - 1:=ef
 have hB:sW g d i k= !(eS li).all fun a=>(eS lk).all fun b=> !fS (gb g d i k) a b:=by rw [sW, ← sX, ← hlk]
 rw [hB]
 (refine Spec.hd (C:=T.cfg [] []) (rs:= [.t 8]) (T.ai _ _) Tryz.func55 rfl rfl Tryz.ntmps55 Tryz.results55 (by simp [AObj.isNest]) (by simp [AObj.isNest]) (by kernel_rfl) T.mixed fun X hX hP hC aF bY=> ?_)
 repeat' (first|refine Rn.p ?_|(with_reducible apply And.intro)|((first|(refine hK _ ?_;clear hK K)|with_reducible intro K hK|refine Rs.p ?_|((with_reducible first|apply oP|apply oQ);exact rfl));try simp only [go_sem,simprocAttr])|((with_reducible refine oD ?_ ?_);kernel_rfl)|((with_reducible intro h);try simp only [go_sem,simprocAttr] at h)|omega|intro h)
 refine ag (fun s:Nat=>s≤(eS li).length∧((eS li).take s).all (fun a=>(eS lk).all fun b=> !fS (gb g d i k) a b)=true) (fun s=>⟨[(2,eN i),(3,eN k),(4, .ptr 4 0),(5, .ptr 5 0),(9, .ptr 9 0),(10, .ptr 10 0),(11,eN s)], [(4, .box [eN g.n, .d (sE g.es)]),(5, .box [.d (sP d.pts), .d (sLn d.ls)]),(9, .box [eN (g.es.getD i (0,0)).1,eN (g.es.getD i (0,0)).2]),(10, .box [eN (g.es.getD k (0,0)).1,eN (g.es.getD k (0,0)).2])]⟩) (fun s=>(eS li).length - s) 0 (by simp) ?_ ?_
 ·(refine Le.of ?_ ?_<;>simp [go_sem,simprocAttr])
 rintro s ⟨hs,Gs⟩
 rcases Nat.lt_or_ge (s+1) li.length with Bd|H7
 ·have aJ:decide ((s:Int)+1<(li.length:Int))=true:=decide_eq_true (by omega)
  have Mt:=oU Bd
  have htn:((s:Int)+1).toNat=s+1:=by omega
  repeat' (first|refine Rn.p ?_|(with_reducible apply And.intro)|((first|(refine hK _ ?_;clear hK K)|with_reducible intro K hK|refine Rs.p ?_|((with_reducible first|apply oP|apply oQ);exact rfl));try simp only [go_sem,simprocAttr, ← sX, ← hlk,aJ])|((with_reducible refine oD ?_ ?_);kernel_rfl)|((with_reducible intro h);try simp only [go_sem,simprocAttr, ← sX, ← hlk,aJ] at h)|omega|intro h)
  refine ag (fun t:Nat=>t≤(eS lk).length∧((eS lk).take t).all (fun b=> !fS (gb g d i k) (li.getD s (0,0),li.getD (s+1) (0,0)) b)=true) (fun t=>⟨[(2,eN i),(3,eN k),(4, .ptr 4 0),(5, .ptr 5 0),(9, .ptr 9 0),(10, .ptr 10 0),(11,eN s),(12,eN t)], [(4, .box [eN g.n, .d (sE g.es)]),(5, .box [.d (sP d.pts), .d (sLn d.ls)]),(9, .box [eN (g.es.getD i (0,0)).1,eN (g.es.getD i (0,0)).2]),(10, .box [eN (g.es.getD k (0,0)).1,eN (g.es.getD k (0,0)).2])]⟩) (fun t=>(eS lk).length - t) 0 (by simp) ?_ ?_
  ·(refine Le.of ?_ ?_<;>simp [go_sem,simprocAttr, ← sX, ← hlk,aJ])
  rintro t ⟨ht,Gt⟩
  rcases Nat.lt_or_ge (t+1) lk.length with pF|Nu
  ·have aK:decide ((t:Int)+1<(lk.length:Int))=true:=decide_eq_true (by omega)
   have Mu:=oU pF
   have D2:((t:Int)+1).toNat=t+1:=by omega
   obtain ⟨n,Gu⟩:∃n,n=fP (li.getD s (0,0)) (li.getD (s+1) (0,0)) (lk.getD t (0,0)) (lk.getD (t+1) (0,0)):=⟨_,rfl⟩
   have OP:=xZ (li.getD s (0,0)) (li.getD (s+1) (0,0)) (lk.getD t (0,0)) (lk.getD (t+1) (0,0))
   rw [← Gu] at OP
   have mY:fS (gb g d i k) (li.getD s (0,0),li.getD (s+1) (0,0)) (lk.getD t (0,0),lk.getD (t+1) (0,0))=(decide (1<n)||(decide (n=1)&& !vX g d i k (li.getD s (0,0),li.getD (s+1) (0,0)) (lk.getD t (0,0),lk.getD (t+1) (0,0)) g.n.toNat)):=by
    rw [DZ hD hi,Gu];rfl
   have FI:fS (gb g d i k) (li.getD s (0,0),li.getD (s+1) (0,0)) (lk.getD t (0,0),lk.getD (t+1) (0,0))=false→((eS lk).take (t+1)).all (fun b=> !fS (gb g d i k) (li.getD s (0,0),li.getD (s+1) (0,0)) b)=true:=fun hb=>
    oT ((0,0),(0,0)) (by omega) Gt (by rw [Mu,hb];rfl)
   have hno:fS (gb g d i k) (li.getD s (0,0),li.getD (s+1) (0,0)) (lk.getD t (0,0),lk.getD (t+1) (0,0))=true→((eS li).all fun a=>(eS lk).all fun b=> !fS (gb g d i k) a b)=false:=fun hb=>
    jc (d:=((0,0),(0,0))) (k:=s) (by omega) (by rw [Mt];exact jc (d:=((0,0),(0,0))) (k:=t) (by omega) (by rw [Mu,hb];rfl))
   repeat' (first|refine Rn.p ?_|(with_reducible apply And.intro)|((first|(refine hK _ ?_;clear hK K)|with_reducible intro K hK|refine Rs.p ?_|((with_reducible first|apply oP|apply oQ);exact rfl)|refine aa hX hC hP (tW (li.getD s (0,0)) (li.getD (s+1) (0,0)) (lk.getD t (0,0)) (lk.getD (t+1) (0,0))) rfl rfl rfl (by simp only [go_sem,simprocAttr, ← sX, ← hlk,aK,htn,D2, ← Gu]) rfl ?_);try simp only [go_sem,simprocAttr, ← sX, ← hlk,aK,htn,D2, ← Gu])|((with_reducible refine oD ?_ ?_);kernel_rfl)|((with_reducible intro h);try simp only [go_sem,simprocAttr, ← sX, ← hlk,aK,htn,D2, ← Gu] at h)|omega|intro h)
   ·refine ⟨t+1,⟨by omega,FI (by rw [mY,decide_eq_false (by omega),decide_eq_false (by omega)];rfl)⟩, ?_,by omega⟩
    (refine Le.of ?_ ?_<;>simp [go_sem,simprocAttr, ← sX, ← hlk,aK,htn,D2, ← Gu])
   ·obtain ⟨en,Mv⟩:∃e,e=vX g d i k (li.getD s (0,0),li.getD (s+1) (0,0)) (lk.getD t (0,0),lk.getD (t+1) (0,0)) g.n.toNat:=⟨_,rfl⟩
    rw [← Mv] at mY
    refine ag (fun m:Nat=>m≤g.n.toNat) (fun m=>⟨[(2,eN i),(3,eN k),(4, .ptr 4 0),(5, .ptr 5 0),(9, .ptr 9 0),(10, .ptr 10 0),(11,eN s),(12,eN t),(13, .ptr 13 0),(14, .ptr 14 0),(15, .ptr 15 0),(16, .ptr 16 0),(17,eN n),(18,eB (vX g d i k (li.getD s (0,0),li.getD (s+1) (0,0)) (lk.getD t (0,0),lk.getD (t+1) (0,0)) m)),(19,eN m)], [(4, .box [eN g.n, .d (sE g.es)]),(5, .box [.d (sP d.pts), .d (sLn d.ls)]),(9, .box [eN (g.es.getD i (0,0)).1,eN (g.es.getD i (0,0)).2]),(10, .box [eN (g.es.getD k (0,0)).1,eN (g.es.getD k (0,0)).2]),(13, .box [eN (li.getD s (0,0)).1,eN (li.getD s (0,0)).2]),(14, .box [eN (li.getD (s+1) (0,0)).1,eN (li.getD (s+1) (0,0)).2]),(15, .box [eN (lk.getD t (0,0)).1,eN (lk.getD t (0,0)).2]),(16, .box [eN (lk.getD (t+1) (0,0)).1,eN (lk.getD (t+1) (0,0)).2])]⟩) (fun m=>g.n.toNat - m) 0 (by simp) ?_ ?_
    ·refine Le.of ?_ ?_<;>simp [go_sem,simprocAttr, ← sX, ← hlk,aK,htn,D2, ← Gu,vX]
    rintro m hm
    rcases Nat.lt_or_ge m g.n.toNat with hml|Qr
    ·have cQ:decide ((m:Int)<g.n)=true:=decide_eq_true (by omega)
     have ga:=BL (g:=g) (d:=d) (i:=i) (k:=k) (a:=(li.getD s (0,0),li.getD (s+1) (0,0))) (b:=(lk.getD t (0,0),lk.getD (t+1) (0,0))) (m:=m)
     repeat' (first|refine Rn.p ?_|(with_reducible apply And.intro)|((first|(refine hK _ ?_;clear hK K)|with_reducible intro K hK|refine Rs.p ?_|((with_reducible first|apply oP|apply oQ);exact rfl)|refine aa hX hC hP (gF (li.getD s (0,0)) (li.getD (s+1) (0,0)) (d.pts.getD m (0,0))) rfl rfl rfl (by simp only [go_sem,simprocAttr, ← sX, ← hlk,cQ]) rfl ?_|refine aa hX hC hP (gF (lk.getD t (0,0)) (lk.getD (t+1) (0,0)) (d.pts.getD m (0,0))) rfl rfl rfl (by simp only [go_sem,simprocAttr, ← sX, ← hlk,cQ]) rfl ?_);try simp only [go_sem,simprocAttr, ← sX, ← hlk,cQ])|((with_reducible refine oD ?_ ?_);kernel_rfl)|((with_reducible intro h);try simp only [go_sem,simprocAttr, ← sX, ← hlk,cQ] at h)|omega|intro h)
     all_goals (
      refine ⟨m+1,by omega, ?_,by omega⟩
      rw [ga]
      clear sX hlk hB Mt Mu FI hno mY Mv Gu ga Gs Gt aJ aK cQ
      simp only [*,decide_true,decide_false,Bool.true_or,Bool.or_true,Bool.false_or,Bool.or_false,Bool.true_and,Bool.false_and,Bool.and_true,Bool.and_false]
      refine Le.of ?_ ?_<;>simp [go_sem,simprocAttr])
    ·have cQ:decide ((m:Int)<g.n)=false:=decide_eq_false (by omega)
     obtain rfl:m=g.n.toNat:=by omega
     rw [← Mv]
     repeat' (first|refine Rn.p ?_|(with_reducible apply And.intro)|((first|(refine hK _ ?_;clear hK K)|with_reducible intro K hK|refine Rs.p ?_|((with_reducible first|apply oP|apply oQ);exact rfl));try simp only [go_sem,simprocAttr, ← sX, ← hlk,cQ])|((with_reducible refine oD ?_ ?_);kernel_rfl)|((with_reducible intro h);try simp only [go_sem,simprocAttr, ← sX, ← hlk,cQ] at h)|omega|intro h)
     all_goals first
      |(have mQ:=hno (by
         rw [mY];simp only [decide_eq_true_eq,Bool.or_eq_true,Bool.and_eq_true,Bool.not_eq_true']
         first|exact .inl (by omega)|exact .inr ⟨by omega,by assumption⟩)
        rw [mQ];rfl)
      |(refine ⟨t+1,⟨by omega,FI (by
         rw [mY];simp only [Bool.or_eq_false_iff,decide_eq_false_iff_not,Bool.and_eq_false_iff,Bool.not_eq_false']
         exact ⟨by omega, .inr (by assumption)⟩)⟩, ?_,by omega⟩
        (refine Le.of ?_ ?_<;>simp [go_sem,simprocAttr, ← sX, ← hlk,cQ]))
  ·have aK:decide ((t:Int)+1<(lk.length:Int))=false:=decide_eq_false (by omega)
   rw [List.take_of_length_le (by omega)] at Gt
   repeat' (first|refine Rn.p ?_|(with_reducible apply And.intro)|((first|(refine hK _ ?_;clear hK K)|with_reducible intro K hK|refine Rs.p ?_|((with_reducible first|apply oP|apply oQ);exact rfl));try simp only [go_sem,simprocAttr, ← sX, ← hlk,aK])|((with_reducible refine oD ?_ ?_);kernel_rfl)|((with_reducible intro h);try simp only [go_sem,simprocAttr, ← sX, ← hlk,aK] at h)|omega|intro h)
   refine ⟨s+1,⟨by omega,oT ((0,0),(0,0)) (by omega) Gs (by rw [Mt];exact Gt)⟩, ?_,by omega⟩
   (refine Le.of ?_ ?_<;>simp [go_sem,simprocAttr, ← sX, ← hlk,aK])
 ·have aJ:decide ((s:Int)+1<(li.length:Int))=false:=decide_eq_false (by omega)
  rw [List.take_of_length_le (by omega)] at Gs
  repeat' (first|refine Rn.p ?_|(with_reducible apply And.intro)|((first|(refine hK _ ?_;clear hK K)|with_reducible intro K hK|refine Rs.p ?_|((with_reducible first|apply oP|apply oQ);exact rfl));try simp only [go_sem,simprocAttr, ← sX, ← hlk,aJ])|((with_reducible refine oD ?_ ?_);kernel_rfl)|((with_reducible intro h);try simp only [go_sem,simprocAttr, ← sX, ← hlk,aJ] at h)|omega|intro h)
  rw [Gs];rfl
end Go.Ab
end
section
namespace Go.Ab
open Go.Proofs
attribute [local congr] ACall.congr gd.congr Nx.congr
set_option maxRecDepth 10000
set_option maxHeartbeats 8000000
theorem kr (g:Gr) (hl:g.es.length≤1000):Spec Tryz.prog 52 (Args [eG g]) [] (eB (decide ((cR g).1=0))) []:=by
 rw [DK]
 (refine Spec.hd (C:=T.cfg [] []) (rs:= [.t 2]) (T.ai _ _) Tryz.func52 rfl rfl Tryz.ntmps52 Tryz.results52 (by simp [AObj.isNest]) (by simp [AObj.isNest]) (by kernel_rfl) T.mixed fun X hX hP hC aF bY=> ?_)
 repeat' (first|refine Rn.p ?_|(with_reducible apply And.intro)|((first|(refine hK _ ?_;clear hK K)|with_reducible intro K hK|refine Rs.p ?_|((with_reducible first|apply oP|apply oQ);exact rfl)|refine aa hX hC hP (mP g hl) rfl rfl rfl (by simp only [go_sem,simprocAttr]) rfl ?_);try simp only [go_sem,simprocAttr])|((with_reducible refine oD ?_ ?_);kernel_rfl)|((with_reducible intro h);try simp only [go_sem,simprocAttr] at h)|omega|intro h)
theorem fF {n k:Nat} {holds:Nat→Bool} (hk:k<n) (h:∀j,j<k→holds j=true) (hb:holds k=false):bE n holds=k:=by
 refine bW (d:=0) (by simpa using hk) (fun j hj=> ?_) ?_
 ·rw [cA (by omega),h j hj];rfl
 ·rw [cA hk,hb];rfl
theorem gG {n:Nat} {holds:Nat→Bool} (h:∀j,j<n→holds j=true):bE n holds= -1:=by
 refine bD 0 fun j hj=> ?_
 rw [List.length_range] at hj
 rw [cA hj,h j hj];rfl
theorem pR {p:Nat→Prop} {k:Nat} (h:∀j,j<k→p j) (hk:p k):∀j,j<k+1→p j:=fun j hj=>by
 by_cases hjk:j=k
 ·subst hjk;exact hk
 ·exact h j (by omega)
theorem qA (g:Gr) (d:Dr) (wW:g.es.length≤1000) (hp:d.pts.length≤1000) (hls:d.ls.length≤1000) (pM:∀l∈d.ls,l.length≤1000):
 Spec Tryz.prog 17 (Args [eG g,eDr d]) [] (.tup [eN (gL g d).1,eN (gL g d).2]) []:=by
 (refine Spec.hd (C:=T.cfg [] []) (rs:= [.t 4, .t 5]) (T.ai _ _) Tryz.func17 rfl rfl Tryz.ntmps17 Tryz.results17 (by simp [AObj.isNest]) (by simp [AObj.isNest]) (by kernel_rfl) T.mixed fun X hX hP hC aF bY=> ?_)
 cases hfit:gK g d with
 |false=>
  have hc:gL g d=(1,0):=by rw [gL,if_pos hfit]
  have hneg:¬((cR g).1=0∧(d.pts.length:Int)=g.n∧d.ls.length=g.es.length):=fun ⟨a,b,c⟩=>by simp [gK,a,b,c] at hfit
  repeat' (first|refine Rn.p ?_|(with_reducible apply And.intro)|((first|(refine hK _ ?_;clear hK K)|with_reducible intro K hK|refine Rs.p ?_|((with_reducible first|apply oP|apply oQ);exact rfl)|refine aa hX hC hP (kr g wW) rfl rfl rfl (by simp only [go_sem,simprocAttr,hc]) rfl ?_);try simp only [go_sem,simprocAttr,hc])|((with_reducible refine oD ?_ ?_);kernel_rfl)|((with_reducible intro h);try simp only [go_sem,simprocAttr,hc] at h)|omega|intro h)
 |true=>
  simp only [gK,Bool.and_eq_true,decide_eq_true_eq] at hfit
  obtain ⟨⟨h0,hnp⟩,hnl⟩:=hfit
  have hfit:gK g d=true:=by simp only [gK,h0,hnp,hnl,decide_true,Bool.and_self]
  have hm:=xX h0
  have hn:=bM hm
  cases hr:eC d with
  |false=>
   have hc:gL g d=(2,0):=by rw [gL,if_neg (by rw [hfit];simp),if_pos hr]
   repeat' (first|refine Rn.p ?_|(with_reducible apply And.intro)|((first|(refine hK _ ?_;clear hK K)|with_reducible intro K hK|refine Rs.p ?_|((with_reducible first|apply oP|apply oQ);exact rfl)|refine aa hX hC hP (kr g wW) rfl rfl rfl (by simp only [go_sem,simprocAttr,hc,h0,hnl,hr,hnp]) rfl ?_|refine aa hX hC hP (lK d hp hls pM) rfl rfl rfl (by simp only [go_sem,simprocAttr,hc,h0,hnl,hr,hnp]) rfl ?_);try simp only [go_sem,simprocAttr,hc,h0,hnl,hr,hnp])|((with_reducible refine oD ?_ ?_);kernel_rfl)|((with_reducible intro h);try simp only [go_sem,simprocAttr,hc,h0,hnl,hr,hnp] at h)|omega|intro h)
  |true=>
  have hD:qz g d:=⟨hm,hnp,hnl,sV hr⟩
  have hc1:gL g d=if 0≤bE g.es.length (oO g d) then (6,bE g.es.length (oO g d)) else
   if 0≤bE g.es.length (fun i=>gl (d.ls.getD i [])) then (7,bE g.es.length (fun i=>gl (d.ls.getD i []))) else
   if 0≤bE d.pts.length (eo d) then (8,bE d.pts.length (eo d)) else
   if 0≤bE g.es.length (jI g d) then (9,bE g.es.length (jI g d)) else
   if 0≤bE g.es.length (gv g d) then (17,bE g.es.length (gv g d)) else (0,0):=by
   rw [gL,if_neg (by rw [hfit];simp),if_neg (by rw [hr];simp)]
  generalize OO:gL g d=c at hc1 ⊢
  repeat' (first|refine Rn.p ?_|(with_reducible apply And.intro)|((first|(refine hK _ ?_;clear hK K)|with_reducible intro K hK|refine Rs.p ?_|((with_reducible first|apply oP|apply oQ);exact rfl)|refine aa hX hC hP (kr g wW) rfl rfl rfl (by simp only [go_sem,simprocAttr,h0,hnl,hr,hnp]) rfl ?_|refine aa hX hC hP (lK d hp hls pM) rfl rfl rfl (by simp only [go_sem,simprocAttr,h0,hnl,hr,hnp]) rfl ?_);try simp only [go_sem,simprocAttr,h0,hnl,hr,hnp])|((with_reducible refine oD ?_ ?_);kernel_rfl)|((with_reducible intro h);try simp only [go_sem,simprocAttr,h0,hnl,hr,hnp] at h)|omega|intro h)
  refine ag (fun i:Nat=>i≤g.es.length∧∀j,j<i→oO g d j=true) (fun i=>⟨[(2, .ptr 2 0),(3, .ptr 3 0),(6,eN i)], [(2, .box [eN g.n, .d (sE g.es)]),(3, .box [.d (sP d.pts), .d (sLn d.ls)])]⟩) (fun i=>g.es.length - i) 0 (by simp) ?_ ?_
  ·(refine Le.of ?_ ?_<;>simp [go_sem,simprocAttr,h0,hnl,hr,hnp])
  rintro i ⟨hi,h6⟩
  rcases Nat.lt_or_ge i g.es.length with hil|FC
  ·have hb:decide ((i:Int)<(g.es.length:Int))=true:=decide_eq_true (by omega)
   obtain ⟨⟨Dz,pg⟩,vm,rz⟩:=dZ hm hil
   obtain ⟨h2,h8⟩:=hD.line hil
   have htn:(((d.ls.getD i []).length:Int) - 1).toNat=(d.ls.getD i []).length - 1:=by omega
   have hE:oO g d i=(decide ((d.ls.getD i []).getD 0 (0,0)=d.pts.getD (g.es.getD i (0,0)).1.toNat (0,0))&&decide ((d.ls.getD i []).getD ((d.ls.getD i []).length - 1) (0,0)=d.pts.getD (g.es.getD i (0,0)).2.toNat (0,0))):=rfl
   repeat' (first|refine Rn.p ?_|(with_reducible apply And.intro)|((first|(refine hK _ ?_;clear hK K)|with_reducible intro K hK|refine Rs.p ?_|((with_reducible first|apply oP|apply oQ);exact rfl));try simp only [go_sem,simprocAttr,hb,htn,iU])|((with_reducible refine oD ?_ ?_);kernel_rfl)|((with_reducible intro h);try simp only [go_sem,simprocAttr,hb,htn,iU] at h)|omega|intro h)
   all_goals first
    |(have iJ:oO g d i=false:=(by rw [hE];simp only [Bool.and_eq_false_iff,decide_eq_false_iff_not];first|exact .inl (by assumption)|exact .inr (by assumption))
      have f6:=fF hil h6 iJ
      have oh:c=(6,(i:Int)):=(by rw [hc1,if_pos (by omega),f6])
      rw [oh])
    |(refine ⟨i+1,⟨by omega,pR h6 (by rw [hE];simp only [Bool.and_eq_true,decide_eq_true_eq];exact ⟨by assumption,by assumption⟩)⟩, ?_,by omega⟩
      (refine Le.of ?_ ?_<;>simp [go_sem,simprocAttr,hb,htn,iU]))
  ·have hb:decide ((i:Int)<(g.es.length:Int))=false:=decide_eq_false (by omega)
   obtain rfl:i=g.es.length:=by omega
   have f6:=gG h6
   rw [if_neg (by omega)] at hc1
   repeat' (first|refine Rn.p ?_|(with_reducible apply And.intro)|((first|(refine hK _ ?_;clear hK K)|with_reducible intro K hK|refine Rs.p ?_|((with_reducible first|apply oP|apply oQ);exact rfl));try simp only [go_sem,simprocAttr,hb])|((with_reducible refine oD ?_ ?_);kernel_rfl)|((with_reducible intro h);try simp only [go_sem,simprocAttr,hb] at h)|omega|intro h)
   clear hb FC hi
   refine ag (fun i:Nat=>i≤g.es.length∧∀j,j<i→gl (d.ls.getD j [])=true) (fun i=>⟨[(2, .ptr 2 0),(3, .ptr 3 0),(8,eN i)], [(2, .box [eN g.n, .d (sE g.es)]),(3, .box [.d (sP d.pts), .d (sLn d.ls)])]⟩) (fun i=>g.es.length - i) 0 (by simp) ?_ ?_
   ·(refine Le.of ?_ ?_<;>simp [go_sem,simprocAttr])
   rintro i ⟨hi,h7⟩
   rcases Nat.lt_or_ge i g.es.length with hil|FC
   ·have hb:decide ((i:Int)<(g.es.length:Int))=true:=decide_eq_true (by omega)
    obtain ⟨l,hl⟩:∃l,l=d.ls.getD i []:=⟨_,rfl⟩
    have Nv:=hD.line hil
    rw [← hl] at Nv
    have fH:(eS l).length=l.length - 1:=ef
    repeat' (first|refine Rn.p ?_|(with_reducible apply And.intro)|((first|(refine hK _ ?_;clear hK K)|with_reducible intro K hK|refine Rs.p ?_|((with_reducible first|apply oP|apply oQ);exact rfl));try simp only [go_sem,simprocAttr,hb, ← hl])|((with_reducible refine oD ?_ ?_);kernel_rfl)|((with_reducible intro h);try simp only [go_sem,simprocAttr,hb, ← hl] at h)|omega|intro h)
    refine ag (fun k:Nat=>k≤(eS l).length∧((eS l).take k).any (fun q=>decide (q.2.2≤q.1.2))=false) (fun k=>⟨[(2, .ptr 2 0),(3, .ptr 3 0),(8,eN i),(9,eN ((k+1:Nat):Int))], [(2, .box [eN g.n, .d (sE g.es)]),(3, .box [.d (sP d.pts), .d (sLn d.ls)])]⟩) (fun k=>(eS l).length - k) 0 (by simp) ?_ ?_
    ·(refine Le.of ?_ ?_<;>simp [go_sem,simprocAttr,hb, ← hl])
    rintro k ⟨hk,hka⟩
    rcases Nat.lt_or_ge (k+1) l.length with cq|Gb
    ·have aJ:decide (((k+1:Nat):Int)<(l.length:Int))=true:=decide_eq_true (by omega)
     have E1:=oU cq
     have htn:(((k+1:Nat):Int) - 1).toNat=k:=by omega
     repeat' (first|refine Rn.p ?_|(with_reducible apply And.intro)|((first|(refine hK _ ?_;clear hK K)|with_reducible intro K hK|refine Rs.p ?_|((with_reducible first|apply oP|apply oQ);exact rfl));try simp only [go_sem,simprocAttr,aJ,htn, ← hl])|((with_reducible refine oD ?_ ?_);kernel_rfl)|((with_reducible intro h);try simp only [go_sem,simprocAttr,aJ,htn, ← hl] at h)|omega|intro h)
     ·have iJ:gl (d.ls.getD i [])=false:=by
       rw [← hl,gl,lB (d:=((0,0),(0,0))) (k:=k) (by omega) (by rw [E1];exact decide_eq_true h)];rfl
      have f7:=fF (holds:=fun i=>gl (d.ls.getD i [])) hil h7 iJ
      have oh:c=(7,(i:Int)):=by rw [hc1,if_pos (by omega),f7]
      rw [oh]
     ·have iJ:gl (d.ls.getD i [])=false:=by
       rw [← hl,gl,lB (d:=((0,0),(0,0))) (k:=k) (by omega) (by rw [E1];exact decide_eq_true h)];rfl
      have f7:=fF (holds:=fun i=>gl (d.ls.getD i [])) hil h7 iJ
      have oh:c=(7,(i:Int)):=by rw [hc1,if_pos (by omega),f7]
      rw [oh]
     ·refine ⟨k+1,⟨by omega,iA ((0,0),(0,0)) (by omega) hka (by rw [E1];exact decide_eq_false h)⟩, ?_,by omega⟩
      (refine Le.of ?_ ?_<;>simp [go_sem,simprocAttr,aJ,htn, ← hl])
    ·have aJ:decide (((k+1:Nat):Int)<(l.length:Int))=false:=decide_eq_false (by omega)
     rw [List.take_of_length_le (by omega)] at hka
     repeat' (first|refine Rn.p ?_|(with_reducible apply And.intro)|((first|(refine hK _ ?_;clear hK K)|with_reducible intro K hK|refine Rs.p ?_|((with_reducible first|apply oP|apply oQ);exact rfl));try simp only [go_sem,simprocAttr,aJ, ← hl])|((with_reducible refine oD ?_ ?_);kernel_rfl)|((with_reducible intro h);try simp only [go_sem,simprocAttr,aJ, ← hl] at h)|omega|intro h)
     refine ⟨i+1,⟨by omega,pR h7 (by rw [← hl,gl,hka];rfl)⟩, ?_,by omega⟩
     (refine Le.of ?_ ?_<;>simp [go_sem,simprocAttr,aJ, ← hl])
   ·have hb:decide ((i:Int)<(g.es.length:Int))=false:=decide_eq_false (by omega)
    obtain rfl:i=g.es.length:=by omega
    have f7:=gG (holds:=fun i=>gl (d.ls.getD i [])) h7
    rw [if_neg (by omega)] at hc1
    repeat' (first|refine Rn.p ?_|(with_reducible apply And.intro)|((first|(refine hK _ ?_;clear hK K)|with_reducible intro K hK|refine Rs.p ?_|((with_reducible first|apply oP|apply oQ);exact rfl));try simp only [go_sem,simprocAttr,hb])|((with_reducible refine oD ?_ ?_);kernel_rfl)|((with_reducible intro h);try simp only [go_sem,simprocAttr,hb] at h)|omega|intro h)
    clear hb FC hi
    refine ag (fun x:Nat=>x≤d.pts.length∧∀j,j<x→eo d j=true) (fun x=>⟨[(2, .ptr 2 0),(3, .ptr 3 0),(10,eN x)], [(2, .box [eN g.n, .d (sE g.es)]),(3, .box [.d (sP d.pts), .d (sLn d.ls)])]⟩) (fun x=>d.pts.length - x) 0 (by simp) ?_ ?_
    ·(refine Le.of ?_ ?_<;>simp [go_sem,simprocAttr])
    rintro x ⟨hx,h8⟩
    rcases Nat.lt_or_ge x d.pts.length with hxl|Mw
    ·have hb:decide ((x:Int)<g.n)=true:=decide_eq_true (by omega)
     repeat' (first|refine Rn.p ?_|(with_reducible apply And.intro)|((first|(refine hK _ ?_;clear hK K)|with_reducible intro K hK|refine Rs.p ?_|((with_reducible first|apply oP|apply oQ);exact rfl));try simp only [go_sem,simprocAttr,hb])|((with_reducible refine oD ?_ ?_);kernel_rfl)|((with_reducible intro h);try simp only [go_sem,simprocAttr,hb] at h)|omega|intro h)
     refine ag (fun z:Nat=>z≤x∧∀j,j<z→¬d.pts.getD x (0,0)=d.pts.getD j (0,0)) (fun z=>⟨[(2, .ptr 2 0),(3, .ptr 3 0),(10,eN x),(11,eN z)], [(2, .box [eN g.n, .d (sE g.es)]),(3, .box [.d (sP d.pts), .d (sLn d.ls)])]⟩) (fun z=>x - z) 0 (by simp) ?_ ?_
     ·(refine Le.of ?_ ?_<;>simp [go_sem,simprocAttr,hb])
     rintro z ⟨hz,Nw⟩
     rcases Nat.lt_or_ge z x with hzl|Qs
     ·have aJ:decide ((z:Int)<(x:Int))=true:=decide_eq_true (by omega)
      repeat' (first|refine Rn.p ?_|(with_reducible apply And.intro)|((first|(refine hK _ ?_;clear hK K)|with_reducible intro K hK|refine Rs.p ?_|((with_reducible first|apply oP|apply oQ);exact rfl));try simp only [go_sem,simprocAttr,aJ,iU])|((with_reducible refine oD ?_ ?_);kernel_rfl)|((with_reducible intro h);try simp only [go_sem,simprocAttr,aJ,iU] at h)|omega|intro h)
      ·have iJ:eo d x=false:=by
        have:d.pts.getD x (0,0)∈d.pts.take x:=by
         rw [h,List.mem_iff_getElem?]
         exact ⟨z,by rw [List.getElem?_take,if_pos hzl,List.getD_eq_getElem?_getD,List.getElem?_eq_getElem (by omega)];rfl⟩
        rw [eo,decide_eq_true this];rfl
       have f8:=fF hxl h8 iJ
       have oh:c=(8,(x:Int)):=by rw [hc1,if_pos (by omega),f8]
       rw [oh]
      ·have iJ:eo d x=false:=by
        have:d.pts.getD x (0,0)∈d.pts.take x:=by
         rw [h,List.mem_iff_getElem?]
         exact ⟨z,by rw [List.getElem?_take,if_pos hzl,List.getD_eq_getElem?_getD,List.getElem?_eq_getElem (by omega)];rfl⟩
        rw [eo,decide_eq_true this];rfl
       have f8:=fF hxl h8 iJ
       have oh:c=(8,(x:Int)):=by rw [hc1,if_pos (by omega),f8]
       rw [oh]
      ·refine ⟨z+1,⟨by omega,pR Nw h⟩, ?_,by omega⟩
       (refine Le.of ?_ ?_<;>simp [go_sem,simprocAttr,aJ,iU])
     ·have aJ:decide ((z:Int)<(x:Int))=false:=decide_eq_false (by omega)
      have FI:eo d x=true:=by
       have:d.pts.getD x (0,0)∉d.pts.take x:=by
        rw [List.mem_iff_getElem?]
        rintro ⟨j,hj⟩
        rw [List.getElem?_take] at hj
        split at hj
        ·exact Nw j (by omega) (by rw [List.getD_eq_getElem?_getD (i:=j),hj];rfl)
        ·cases hj
       rw [eo,decide_eq_false this];rfl
      repeat' (first|refine Rn.p ?_|(with_reducible apply And.intro)|((first|(refine hK _ ?_;clear hK K)|with_reducible intro K hK|refine Rs.p ?_|((with_reducible first|apply oP|apply oQ);exact rfl));try simp only [go_sem,simprocAttr,aJ])|((with_reducible refine oD ?_ ?_);kernel_rfl)|((with_reducible intro h);try simp only [go_sem,simprocAttr,aJ] at h)|omega|intro h)
      refine ⟨x+1,⟨by omega,pR h8 FI⟩, ?_,by omega⟩
      (refine Le.of ?_ ?_<;>simp [go_sem,simprocAttr,aJ])
    ·have hb:decide ((x:Int)<g.n)=false:=decide_eq_false (by omega)
     obtain rfl:x=d.pts.length:=by omega
     have f8:=gG h8
     rw [if_neg (by omega)] at hc1
     repeat' (first|refine Rn.p ?_|(with_reducible apply And.intro)|((first|(refine hK _ ?_;clear hK K)|with_reducible intro K hK|refine Rs.p ?_|((with_reducible first|apply oP|apply oQ);exact rfl));try simp only [go_sem,simprocAttr,hb])|((with_reducible refine oD ?_ ?_);kernel_rfl)|((with_reducible intro h);try simp only [go_sem,simprocAttr,hb] at h)|omega|intro h)
     clear hb Mw hx
     refine ag (fun i:Nat=>i≤g.es.length∧∀j,j<i→jI g d j=true) (fun i=>⟨[(2, .ptr 2 0),(3, .ptr 3 0),(12,eN i)], [(2, .box [eN g.n, .d (sE g.es)]),(3, .box [.d (sP d.pts), .d (sLn d.ls)])]⟩) (fun i=>g.es.length - i) 0 (by simp) ?_ ?_
     ·(refine Le.of ?_ ?_<;>simp [go_sem,simprocAttr])
     rintro i ⟨hi,h9⟩
     rcases Nat.lt_or_ge i g.es.length with hil|FC
     ·have hb:decide ((i:Int)<(g.es.length:Int))=true:=decide_eq_true (by omega)
      have Nv:=hD.line hil
      have Mx:(d.ls.getD i []).length≤1000000:=by omega
      repeat' (first|refine Rn.p ?_|(with_reducible apply And.intro)|((first|(refine hK _ ?_;clear hK K)|with_reducible intro K hK|refine Rs.p ?_|((with_reducible first|apply oP|apply oQ);exact rfl));try simp only [go_sem,simprocAttr,hb])|((with_reducible refine oD ?_ ?_);kernel_rfl)|((with_reducible intro h);try simp only [go_sem,simprocAttr,hb] at h)|omega|intro h)
      refine ag (fun x:Nat=>x≤d.pts.length∧lJ g d i x=true) (fun x=>⟨[(2, .ptr 2 0),(3, .ptr 3 0),(12,eN i),(13,eN x)], [(2, .box [eN g.n, .d (sE g.es)]),(3, .box [.d (sP d.pts), .d (sLn d.ls)])]⟩) (fun x=>d.pts.length - x) 0 (by simp [lJ]) ?_ ?_
      ·(refine Le.of ?_ ?_<;>simp [go_sem,simprocAttr,hb])
      rintro x ⟨hx,Ny⟩
      rcases Nat.lt_or_ge x d.pts.length with hxl|Mw
      ·have aJ:decide ((x:Int)<g.n)=true:=decide_eq_true (by omega)
       have ga:=sS (g:=g) (d:=d) (i:=i) (k:=x)
       rw [Ny,Bool.true_and] at ga
       repeat' (first|refine Rn.p ?_|(with_reducible apply And.intro)|((first|(refine hK _ ?_;clear hK K)|with_reducible intro K hK|refine Rs.p ?_|((with_reducible first|apply oP|apply oQ);exact rfl)|refine aa hX hC hP (xY (d.ls.getD i []) (d.pts.getD x (0,0)) Mx) rfl rfl rfl (by simp only [go_sem,simprocAttr,aJ]) rfl ?_);try simp only [go_sem,simprocAttr,aJ])|((with_reducible refine oD ?_ ?_);kernel_rfl)|((with_reducible intro h);try simp only [go_sem,simprocAttr,aJ] at h)|omega|intro h)
       any_goals (
        have iJ:jI g d i=false:=(by
         rw [jI,lJ]
         refine oR hxl ?_
         simp only [*,decide_false,Bool.or_false,Bool.false_or,Bool.not_true])
        have f9:=fF hil h9 iJ
        have oh:c=(9,(i:Int)):=(by rw [hc1,if_pos (by omega),f9])
        rw [oh]
        done)
       all_goals (
        refine ⟨x+1,⟨by omega, ?_⟩, ?_,by omega⟩
        ·rw [ga];simp only [*,decide_true,Bool.true_or,Bool.or_true,Bool.not_false]
        ·(refine Le.of ?_ ?_<;>simp [go_sem,simprocAttr,aJ]))
      ·have aJ:decide ((x:Int)<g.n)=false:=decide_eq_false (by omega)
       obtain rfl:x=d.pts.length:=by omega
       repeat' (first|refine Rn.p ?_|(with_reducible apply And.intro)|((first|(refine hK _ ?_;clear hK K)|with_reducible intro K hK|refine Rs.p ?_|((with_reducible first|apply oP|apply oQ);exact rfl));try simp only [go_sem,simprocAttr,aJ])|((with_reducible refine oD ?_ ?_);kernel_rfl)|((with_reducible intro h);try simp only [go_sem,simprocAttr,aJ] at h)|omega|intro h)
       refine ⟨i+1,⟨by omega,pR h9 Ny⟩, ?_,by omega⟩
       (refine Le.of ?_ ?_<;>simp [go_sem,simprocAttr,aJ])
     ·have hb:decide ((i:Int)<(g.es.length:Int))=false:=decide_eq_false (by omega)
      obtain rfl:i=g.es.length:=by omega
      have f9:=gG h9
      rw [if_neg (by omega)] at hc1
      repeat' (first|refine Rn.p ?_|(with_reducible apply And.intro)|((first|(refine hK _ ?_;clear hK K)|with_reducible intro K hK|refine Rs.p ?_|((with_reducible first|apply oP|apply oQ);exact rfl));try simp only [go_sem,simprocAttr,hb])|((with_reducible refine oD ?_ ?_);kernel_rfl)|((with_reducible intro h);try simp only [go_sem,simprocAttr,hb] at h)|omega|intro h)
      clear hb FC hi
      refine ag (fun i:Nat=>i≤g.es.length∧∀j,j<i→gv g d j=true) (fun i=>⟨[(2, .ptr 2 0),(3, .ptr 3 0),(14,eN i)], [(2, .box [eN g.n, .d (sE g.es)]),(3, .box [.d (sP d.pts), .d (sLn d.ls)])]⟩) (fun i=>g.es.length - i) 0 (by simp) ?_ ?_
      ·(refine Le.of ?_ ?_<;>simp [go_sem,simprocAttr])
      rintro i ⟨hi,KC⟩
      rcases Nat.lt_or_ge i g.es.length with hil|FC
      ·have hb:decide ((i:Int)<(g.es.length:Int))=true:=decide_eq_true (by omega)
       repeat' (first|refine Rn.p ?_|(with_reducible apply And.intro)|((first|(refine hK _ ?_;clear hK K)|with_reducible intro K hK|refine Rs.p ?_|((with_reducible first|apply oP|apply oQ);exact rfl));try simp only [go_sem,simprocAttr,hb])|((with_reducible refine oD ?_ ?_);kernel_rfl)|((with_reducible intro h);try simp only [go_sem,simprocAttr,hb] at h)|omega|intro h)
       refine ag (fun k:Nat=>k≤i∧iF g d i k=true) (fun k=>⟨[(2, .ptr 2 0),(3, .ptr 3 0),(14,eN i),(15,eN k)], [(2, .box [eN g.n, .d (sE g.es)]),(3, .box [.d (sP d.pts), .d (sLn d.ls)])]⟩) (fun k=>i - k) 0 (by simp [iF]) ?_ ?_
       ·(refine Le.of ?_ ?_<;>simp [go_sem,simprocAttr,hb])
       rintro k ⟨hk,hka⟩
       rcases Nat.lt_or_ge k i with cq|Gb
       ·have aJ:decide ((k:Int)<(i:Int))=true:=decide_eq_true (by omega)
        have My:k<g.es.length:=by omega
        have ga:iF g d i (k+1)=(iF g d i k&& !sW g d i k):=by rw [qo,sW,Bool.not_not]
        repeat' (first|refine Rn.p ?_|(with_reducible apply And.intro)|((first|(refine hK _ ?_;clear hK K)|with_reducible intro K hK|refine Rs.p ?_|((with_reducible first|apply oP|apply oQ);exact rfl)|refine aa hX hC hP (tX g d hD i k hil My) rfl rfl rfl (by simp only [go_sem,simprocAttr,aJ]) rfl ?_);try simp only [go_sem,simprocAttr,aJ])|((with_reducible refine oD ?_ ?_);kernel_rfl)|((with_reducible intro h);try simp only [go_sem,simprocAttr,aJ] at h)|omega|intro h)
        ·have iJ:gv g d i=false:=oR cq (by rw [sW,Bool.not_eq_true'] at h;exact h)
         have f17:=fF hil KC iJ
         have oh:c=(17,(i:Int)):=by rw [hc1,if_pos (by omega),f17]
         rw [oh]
        ·have iJ:gv g d i=false:=oR cq (by rw [sW,Bool.not_eq_true'] at h;exact h)
         have f17:=fF hil KC iJ
         have oh:c=(17,(i:Int)):=by rw [hc1,if_pos (by omega),f17]
         rw [oh]
        ·refine ⟨k+1,⟨by omega,by rw [ga,hka,h];rfl⟩, ?_,by omega⟩
         (refine Le.of ?_ ?_<;>simp [go_sem,simprocAttr,aJ])
       ·have aJ:decide ((k:Int)<(i:Int))=false:=decide_eq_false (by omega)
        obtain rfl:k=i:=by omega
        repeat' (first|refine Rn.p ?_|(with_reducible apply And.intro)|((first|(refine hK _ ?_;clear hK K)|with_reducible intro K hK|refine Rs.p ?_|((with_reducible first|apply oP|apply oQ);exact rfl));try simp only [go_sem,simprocAttr,aJ])|((with_reducible refine oD ?_ ?_);kernel_rfl)|((with_reducible intro h);try simp only [go_sem,simprocAttr,aJ] at h)|omega|intro h)
        refine ⟨k+1,⟨by omega,pR KC hka⟩, ?_,by omega⟩
        (refine Le.of ?_ ?_<;>simp [go_sem,simprocAttr,aJ])
      ·have hb:decide ((i:Int)<(g.es.length:Int))=false:=decide_eq_false (by omega)
       obtain rfl:i=g.es.length:=by omega
       have f17:=gG KC
       rw [if_neg (by omega)] at hc1
       repeat' (first|refine Rn.p ?_|(with_reducible apply And.intro)|((first|(refine hK _ ?_;clear hK K)|with_reducible intro K hK|refine Rs.p ?_|((with_reducible first|apply oP|apply oQ);exact rfl));try simp only [go_sem,simprocAttr,hb])|((with_reducible refine oD ?_ ?_);kernel_rfl)|((with_reducible intro h);try simp only [go_sem,simprocAttr,hb] at h)|omega|intro h)
       all_goals rw [hc1]
end Go.Ab
end
section
namespace Go.Ab
open Go.Proofs
attribute [local congr] ACall.congr gd.congr Nx.congr
set_option maxRecDepth 10000
set_option maxHeartbeats 8000000
def lM (g:Gr) (d:Dr):Bool:=decide (40<g.es.length)||decide (70<d.pts.length)||decide (50<d.ls.length)||d.ls.any fun l=>decide (20<l.length)
theorem qq (g:Gr) (d:Dr) (hls:d.ls.length≤9223372036854775807):Spec Tryz.prog 15 (Args [eG g,eDr d]) [] (eB (lM g d)) []:=by
 (refine Spec.hd (C:=T.cfg [] []) (rs:= [.t 4]) (T.ai _ _) Tryz.func15 rfl rfl Tryz.ntmps15 Tryz.results15 (by simp [AObj.isNest]) (by simp [AObj.isNest]) (by kernel_rfl) T.mixed fun X hX hP hC aF bY=> ?_)
 by_cases h1:40<g.es.length
 ·have hb:decide ((40:Int)<(g.es.length:Int))=true:=decide_eq_true (by omega)
  repeat' (first|refine Rn.p ?_|(with_reducible apply And.intro)|((first|(refine hK _ ?_;clear hK K)|with_reducible intro K hK|refine Rs.p ?_|((with_reducible first|apply oP|apply oQ);exact rfl));try simp only [go_sem,simprocAttr,hb])|((with_reducible refine oD ?_ ?_);kernel_rfl)|((with_reducible intro h);try simp only [go_sem,simprocAttr,hb] at h)|omega|intro h)
  simp only [lM,decide_eq_true h1,Bool.true_or]
 by_cases h2:70<d.pts.length
 ·have hb:decide ((40:Int)<(g.es.length:Int))=false:=decide_eq_false (by omega)
  have aK:decide ((70:Int)<(d.pts.length:Int))=true:=decide_eq_true (by omega)
  repeat' (first|refine Rn.p ?_|(with_reducible apply And.intro)|((first|(refine hK _ ?_;clear hK K)|with_reducible intro K hK|refine Rs.p ?_|((with_reducible first|apply oP|apply oQ);exact rfl));try simp only [go_sem,simprocAttr,hb,aK])|((with_reducible refine oD ?_ ?_);kernel_rfl)|((with_reducible intro h);try simp only [go_sem,simprocAttr,hb,aK] at h)|omega|intro h)
  simp only [lM,decide_eq_true h2,Bool.true_or,Bool.or_true]
 by_cases h3:50<d.ls.length
 ·have hb:decide ((40:Int)<(g.es.length:Int))=false:=decide_eq_false (by omega)
  have aK:decide ((70:Int)<(d.pts.length:Int))=false:=decide_eq_false (by omega)
  have cQ:decide ((50:Int)<(d.ls.length:Int))=true:=decide_eq_true (by omega)
  repeat' (first|refine Rn.p ?_|(with_reducible apply And.intro)|((first|(refine hK _ ?_;clear hK K)|with_reducible intro K hK|refine Rs.p ?_|((with_reducible first|apply oP|apply oQ);exact rfl));try simp only [go_sem,simprocAttr,hb,aK,cQ])|((with_reducible refine oD ?_ ?_);kernel_rfl)|((with_reducible intro h);try simp only [go_sem,simprocAttr,hb,aK,cQ] at h)|omega|intro h)
  simp only [lM,decide_eq_true h3,Bool.true_or,Bool.or_true]
 have hb:decide ((40:Int)<(g.es.length:Int))=false:=decide_eq_false (by omega)
 have aK:decide ((70:Int)<(d.pts.length:Int))=false:=decide_eq_false (by omega)
 have cQ:decide ((50:Int)<(d.ls.length:Int))=false:=decide_eq_false (by omega)
 have hG:lM g d=d.ls.any fun l=>decide (20<l.length):=by simp only [lM,decide_eq_false h1,decide_eq_false h2,decide_eq_false h3,Bool.false_or]
 rw [hG]
 repeat' (first|refine Rn.p ?_|(with_reducible apply And.intro)|((first|(refine hK _ ?_;clear hK K)|with_reducible intro K hK|refine Rs.p ?_|((with_reducible first|apply oP|apply oQ);exact rfl));try simp only [go_sem,simprocAttr,hb,aK,cQ])|((with_reducible refine oD ?_ ?_);kernel_rfl)|((with_reducible intro h);try simp only [go_sem,simprocAttr,hb,aK,cQ] at h)|omega|intro h)
 refine ag (fun k:Nat=>k≤d.ls.length∧(d.ls.take k).any (fun l=>decide (20<l.length))=false) (fun k=>⟨[(24, .d (sLn d.ls)),(25,eN d.ls.length),(26,eN k)], []⟩) (fun k=>d.ls.length - k) 0 (by simp) ?_ ?_
 ·(refine Le.of ?_ ?_<;>simp [go_sem,simprocAttr,hb,aK,cQ])
 rintro k ⟨hk,hf⟩
 rcases Nat.lt_or_ge k d.ls.length with hlt|hge
 ·have hb4:decide ((k:Int)<(d.ls.length:Int))=true:=decide_eq_true (by omega)
  repeat' (first|refine Rn.p ?_|(with_reducible apply And.intro)|((first|(refine hK _ ?_;clear hK K)|with_reducible intro K hK|refine Rs.p ?_|((with_reducible first|apply oP|apply oQ);exact rfl));try simp only [go_sem,simprocAttr,hb4])|((with_reducible refine oD ?_ ?_);kernel_rfl)|((with_reducible intro h);try simp only [go_sem,simprocAttr,hb4] at h)|omega|intro h)
  ·exact (lB (d:= []) hlt (decide_eq_true (by omega))).symm
  ·refine ⟨k+1,⟨by omega,iA [] hlt hf (decide_eq_false (by omega))⟩, ?_,by omega⟩
   (refine ⟨bz ?_,fun _ _ h=>h⟩;simp [go_sem,simprocAttr,hb4])
 ·have hb4:decide ((k:Int)<(d.ls.length:Int))=false:=decide_eq_false (by omega)
  rw [List.take_of_length_le hge] at hf
  repeat' (first|refine Rn.p ?_|(with_reducible apply And.intro)|((first|(refine hK _ ?_;clear hK K)|with_reducible intro K hK|refine Rs.p ?_|((with_reducible first|apply oP|apply oQ);exact rfl));try simp only [go_sem,simprocAttr,hb4])|((with_reducible refine oD ?_ ?_);kernel_rfl)|((with_reducible intro h);try simp only [go_sem,simprocAttr,hb4] at h)|omega|intro h)
  exact hf.symm
def gp:Gr:=⟨2, [(0,1)]⟩
def da:Dr:=⟨[(0,0),(0,1)], [[(0,0),(0,1)]]⟩
def db:Dr:=⟨[(0,1),(0,0)], [[(0,1),(0,0)]]⟩
theorem Hx:gL gp da=(0,0):=by decide
theorem Hy:gL gp db=(7,0):=by decide
theorem jh:Spec Tryz.prog 14 (Args []) [] (eB true) []:=by
 have h1:=Hx
 have h2:=Hy
 simp only [gp,da,db] at h1 h2
 (refine Spec.hd (C:=T.cfg [] []) (rs:= [.t 0]) (T.ai _ _) Tryz.func14 rfl rfl Tryz.ntmps14 Tryz.results14 (by simp [AObj.isNest]) (by simp [AObj.isNest]) (by kernel_rfl) T.mixed fun X hX hP hC aF bY=> ?_)
 repeat' (first|refine Rn.p ?_|(with_reducible apply And.intro)|((first|(refine hK _ ?_;clear hK K)|with_reducible intro K hK|refine Rs.p ?_|((with_reducible first|apply oP|apply oQ);exact rfl)|(refine an hX hC hP (fT gp da (by decide) (by decide) (by decide) (by decide)) rfl rfl rfl ?_ ?_ rfl ?_;iterate 2 (focus (simp only [go_sem,simprocAttr,gp,da,db,rE,rP,vP,h1,h2];done)))|(refine an hX hC hP (fT gp db (by decide) (by decide) (by decide) (by decide)) rfl rfl rfl ?_ ?_ rfl ?_;iterate 2 (focus (simp only [go_sem,simprocAttr,gp,da,db,rE,rP,vP,h1,h2];done))));try simp only [go_sem,simprocAttr,gp,da,db,rE,rP,vP,h1,h2])|((with_reducible refine oD ?_ ?_);kernel_rfl)|((with_reducible intro h);try simp only [go_sem,simprocAttr,gp,da,db,rE,rP,vP,h1,h2] at h)|omega|intro h)
end Go.Ab
end
