/- A part of the proof. -/
import Derived.Test.YtameldglfobjkaaGreatL5P19
set_option linter.unusedSimpArgs false
set_option linter.unusedVariables false
section
namespace Go.Ab
open Go.Proofs
attribute [local congr] ACall.congr gd.congr Nx.congr
set_option maxRecDepth 20000
set_option linter.unusedSectionVars false
set_option maxHeartbeats 16000000
theorem y5 (ls:List (List Int)) (h2:ls.length≤1000) (h3:∀l∈ls,l.length≤1000):Spec Tryz.prog 31 (Args [.d (.sl 1 (vI ls))]) [] (.d (.sl 1 (vI (ls.map List.reverse)))) []:=by
 (refine Spec.hd (C:=T.cfg [] []) (rs:= [.t 2]) (T.ah _ _) Tryz.func31 rfl rfl Tryz.ntmps31 Tryz.results31 (by simp [AObj.isNest]) (by simp [AObj.isNest]) (by kernel_rfl) T.mixed fun X hX hP hC aB bK=> ?_)
 repeat' (first|(show cA _ (.seq (.region 1 _ _) _) _ _;(refine gv hX 2 18 (.tip 25 1 []) ?_ ?_ (by decide) ⟨25,1,by decide, .inr rfl⟩ ?_;(iterate 2 (focus (simp only [go_sem,simprocAttr,vI_length];done)));simp only [go_sem,simprocAttr,vI_length]))|refine Rn.p ?_|(with_reducible apply And.intro)|((first|(refine hK _ ?_;clear hK K)|with_reducible intro K hK|refine Rs.p ?_|((with_reducible first|apply oP|apply oQ);exact rfl));try simp only [go_sem,simprocAttr,vI_length])|((with_reducible refine oD ?_ ?_);kernel_rfl)|((with_reducible intro h);try simp only [go_sem,simprocAttr,vI_length] at h)|omega|intro h)
 refine ag (fun x:Nat=>x≤ls.length) (fun x=>⟨[(2, .ref 18),(5, .d (.sl 1 (vI ls))),(6,eN ls.length),(7,eN x)], [(18, .tip 25 1 (vI ((ls.take x).map List.reverse)))]⟩) (fun x=>ls.length - x) 0 (by omega) ?_ ?_
 ·refine Le.of ?_ ?_<;>simp [go_sem,simprocAttr,vI]
 rintro x hx
 rcases Nat.lt_or_ge x ls.length with hxl|OH
 ·have hb:decide ((x:Int)<(ls.length:Int))=true:=decide_eq_true (by omega)
  have hv:=fun e=>nN hxl e
  have jK:=h3 _ (aD (d:= []) hxl)
  have gJ:vI ((ls.take (x+1)).map List.reverse)=vI ((ls.take x).map List.reverse)++ [[sI (ls.getD x []).reverse]]:=by
   rw [pn (d:= []) hxl];simp [vI]
  have l7:((ls.take x).map List.reverse).length=x:=by rw [List.length_map,List.length_take];omega
  generalize ls.getD x []=l at hv jK gJ
  have RD:=qI l (by omega)
  have Va:=wq l (by omega)
  repeat' (first|(show cA _ (.seq (.region 6 _ _) _) _ _;(refine c9 hX 12 rfl (.inl rfl) ?_;simp only [go_sem,simprocAttr,hb,hv,l7,vI_length]))|(show cA _ (.region 6 _ _) _ _;(refine c9 hX 12 rfl (.inl rfl) ?_;simp only [go_sem,simprocAttr,hb,hv,l7,vI_length]))|refine Rn.p ?_|(with_reducible apply And.intro)|((first|(refine hK _ ?_;clear hK K)|with_reducible intro K hK|refine Rs.p ?_|((with_reducible first|apply oP|apply oQ);exact rfl)|(refine iS hX hC hP 12 (RD) rfl rfl rfl ?_ ?_ (by first|exact ⟨_,_,_,rfl,xb⟩|exact ⟨_,_,_,rfl,xd⟩|exact ⟨_,_,_,rfl,xg⟩) rfl (by decide) ?_;(iterate 2 (focus (simp only [go_sem,simprocAttr,hb,hv,l7,vI_length];done)));simp only [go_sem,simprocAttr,hb,hv,l7,vI_length])|(refine aJ hX hC hP [(10000,12)] (Va) rfl rfl rfl ?_ ?_ ?_ ?_ ?_ ?_ ?_ ?_ ?_ ?_ ?_ ?_ ?_ ?_;(focus (simp only [go_sem,simprocAttr,hb,hv,l7,vI_length];done));(iterate 12 (focus (simp [go_sem,simprocAttr,hb,hv,l7,vI_length];done)));try simp only [List.map_cons,List.map_nil]));try simp only [go_sem,simprocAttr,hb,hv,l7,vI_length])|((with_reducible refine oD ?_ ?_);kernel_rfl)|((with_reducible intro h);try simp only [go_sem,simprocAttr,hb,hv,l7,vI_length] at h)|omega|intro h)
  refine ⟨x+1,by omega, ?_,by omega⟩
  rw [gJ]
  refine Le.of ?_ ?_<;>simp [go_sem,simprocAttr]
 have hb:decide ((x:Int)<(ls.length:Int))=false:=decide_eq_false (by omega)
 obtain rfl:x=ls.length:=by omega
 rw [List.take_length]
 repeat' (first|refine Rn.p ?_|(with_reducible apply And.intro)|((first|(refine hK _ ?_;clear hK K)|with_reducible intro K hK|refine Rs.p ?_|((with_reducible first|apply oP|apply oQ);exact rfl));try simp only [go_sem,simprocAttr,hb])|((with_reducible refine oD ?_ ?_);kernel_rfl)|((with_reducible intro h);try simp only [go_sem,simprocAttr,hb] at h)|omega|intro h)
theorem y6 (B C:List Int) (hl:(B++C).length≤100000):Spec Tryz.prog 81 (Args [.d (sI (B++C)), .d (sI (C++B))]) [] (eB true) []:=by
 by_cases h0:B++C= []
 ·obtain ⟨rfl,rfl⟩:=List.append_eq_nil_iff.1 h0
  exact AY [] (by simp)
 obtain ⟨z,hz,Kl⟩:∃z,z<(B++C).length∧(B++C).drop z++(B++C).take z=C++B:=by
  by_cases hC:C= []
  ·subst hC
   exact ⟨0,List.length_pos_iff.2 h0,by simp⟩
  ·refine ⟨B.length, ?_,by simp⟩
   have:=List.length_pos_iff.2 hC
   rw [List.length_append];omega
 generalize B++C=L at*
 generalize C++B=R at*
 (refine Spec.hd (C:=T.cfg [] []) (rs:= [.t 4]) (T.ah _ _) Tryz.func81 rfl rfl Tryz.ntmps81 Tryz.results81 (by simp [AObj.isNest]) (by simp [AObj.isNest]) (by kernel_rfl) T.mixed fun X hX hP hC aB bK=> ?_)
 repeat' (first|refine Rn.p ?_|(with_reducible apply And.intro)|((first|(refine hK _ ?_;clear hK K)|with_reducible intro K hK|refine Rs.p ?_|((with_reducible first|apply oP|apply oQ);exact rfl));try simp only [go_sem,simprocAttr])|((with_reducible refine oD ?_ ?_);kernel_rfl)|((with_reducible intro h);try simp only [go_sem,simprocAttr] at h)|omega|intro h)
 refine ag (fun i:Nat=>i≤z) (fun i=>⟨[(0, .d (sI L)),(1, .d (sI R)),(7,eN L.length),(8,eN i)], []⟩) (fun i=>z - i) 0 (by omega) ?_ ?_
 ·refine Le.of ?_ ?_<;>simp [go_sem,simprocAttr]
 rintro i hi
 have hb:decide ((i:Int)<(L.length:Int))=true:=decide_eq_true (by omega)
 have e: [L.drop i,L.take i].flatten=L.drop i++L.take i:=by simp
 have hel:(L.drop i++L.take i).length=L.length:=by simp;omega
 have Jq:=dR [L.drop i,L.take i] (by simp) (by rw [e,hel];omega) (by rw [e,hel];omega)
 rw [e] at Jq
 have hE:=dU (L.drop i++L.take i) R (by rw [hel];omega)
 have Jr:List.drop i (L.map rI)=(L.drop i).map rI:=List.map_drop.symm
 have hdt:List.take i (L.map rI)=(L.take i).map rI:=List.map_take.symm
 have s4:List.take (L.length - i) ((L.drop i).map rI)=(L.drop i).map rI:=List.take_of_length_le (by simp)
 have y7:List.take L.length (L.map rI)=L.map rI:=List.take_of_length_le (by simp)
 simp only [vL,List.map_cons,List.map_nil,sI] at Jq
 by_cases hq:L.drop i++L.take i=R
 ·rw [decide_eq_true hq] at hE
  generalize L.drop i++L.take i=Q at*
  repeat' (first|refine Rn.p ?_|(with_reducible apply And.intro)|((first|(refine hK _ ?_;clear hK K)|with_reducible intro K hK|refine Rs.p ?_|((with_reducible first|apply oP|apply oQ);exact rfl)|(refine aq hX hC hP (Jq) rfl rfl rfl ?_ ?_ rfl ?_;iterate 2 (focus (simp only [go_sem,simprocAttr,hb,Jr,hdt,s4,y7];done)))|refine aa hX hC hP (hE) rfl rfl rfl (by simp only [go_sem,simprocAttr,hb,Jr,hdt,s4,y7]) rfl ?_);try simp only [go_sem,simprocAttr,hb,Jr,hdt,s4,y7])|((with_reducible refine oD ?_ ?_);kernel_rfl)|((with_reducible intro h);try simp only [go_sem,simprocAttr,hb,Jr,hdt,s4,y7] at h)|omega|intro h)
 ·have Wm:i<z:=Nat.lt_of_le_of_ne hi fun e=>hq (by rw [e];exact Kl)
  rw [decide_eq_false hq] at hE
  generalize L.drop i++L.take i=Q at*
  repeat' (first|refine Rn.p ?_|(with_reducible apply And.intro)|((first|(refine hK _ ?_;clear hK K)|with_reducible intro K hK|refine Rs.p ?_|((with_reducible first|apply oP|apply oQ);exact rfl)|(refine aq hX hC hP (Jq) rfl rfl rfl ?_ ?_ rfl ?_;iterate 2 (focus (simp only [go_sem,simprocAttr,hb,Jr,hdt,s4,y7];done)))|refine aa hX hC hP (hE) rfl rfl rfl (by simp only [go_sem,simprocAttr,hb,Jr,hdt,s4,y7]) rfl ?_);try simp only [go_sem,simprocAttr,hb,Jr,hdt,s4,y7])|((with_reducible refine oD ?_ ?_);kernel_rfl)|((with_reducible intro h);try simp only [go_sem,simprocAttr,hb,Jr,hdt,s4,y7] at h)|omega|intro h)
  refine ⟨i+1,by omega, ?_,by omega⟩
  refine Le.of ?_ ?_<;>simp [go_sem,simprocAttr,hb,Jr,hdt,s4,y7]
theorem Cz (la lb:List (List Int)) (hn:la.length≤1000) (hl:∀l∈la,l.length≤100000) (hab:lb.length=la.length) (hr:∀x,x<la.length→∃B C,la.getD x []=B++C∧lb.getD x []=C++B):Spec Tryz.prog 30 (Args [.d (.sl 1 (vI la)), .d (.sl 1 (vI lb))]) [] (eB true) []:=by
 have hE:Spec Tryz.prog 80 (Args [.d (.sl 1 (vI la)), .d (.sl 1 (vI lb)), .fn 81 [] []]) [] (eB true) []:=by
  have CA:(lb.length:Int)=(la.length:Int):=by omega
  (refine Spec.hd (C:=T.cfg [] []) (rs:= [.t 6]) (T.ah _ _) Tryz.func80 rfl rfl Tryz.ntmps80 Tryz.results80 (by simp [AObj.isNest]) (by simp [AObj.isNest]) (by kernel_rfl) T.mixed fun X hX hP hC aB bK=> ?_)
  repeat' (first|refine Rn.p ?_|(with_reducible apply And.intro)|((first|(refine hK _ ?_;clear hK K)|with_reducible intro K hK|refine Rs.p ?_|((with_reducible first|apply oP|apply oQ);exact rfl));try simp only [go_sem,simprocAttr,vI_length,CA])|((with_reducible refine oD ?_ ?_);kernel_rfl)|((with_reducible intro h);try simp only [go_sem,simprocAttr,vI_length,CA] at h)|omega|intro h)
  refine ag (fun k:Nat=>k≤la.length) (fun k=>⟨[(1, .d (.sl 1 (vI lb))),(2, .fn 81 [] []),(15, .d (.sl 1 (vI la))),(16,eN la.length),(17,eN k)], []⟩) (fun k=>la.length - k) 0 (by omega) ?_ ?_
  ·refine Le.of ?_ ?_<;>simp [go_sem,simprocAttr,vI_length,CA]
  rintro k hk
  rcases Nat.lt_or_ge k la.length with hlt|hge
  ·have hb:decide ((k:Int)<(la.length:Int))=true:=decide_eq_true (by omega)
   have hv:=fun e=>nN (ls:=la) (k:=k) hlt e
   have Bu:=fun e=>nN (ls:=lb) (k:=k) (by omega) e
   obtain ⟨B,C,e1,e2⟩:=hr k hlt
   have hml:=hl _ (aD (d:= []) hlt)
   have hT:=y6 B C (by rw [← e1];exact hml)
   rw [← e1, ← e2] at hT
   repeat' (first|refine Rn.p ?_|(with_reducible apply And.intro)|((first|(refine hK _ ?_;clear hK K)|with_reducible intro K hK|refine Rs.p ?_|((with_reducible first|apply oP|apply oQ);exact rfl)|refine aa hX hC hP (hT) rfl rfl rfl (by simp only [go_sem,simprocAttr,vI_length,hb,hv,Bu,CA,hab]) rfl ?_);try simp only [go_sem,simprocAttr,vI_length,hb,hv,Bu,CA,hab])|((with_reducible refine oD ?_ ?_);kernel_rfl)|((with_reducible intro h);try simp only [go_sem,simprocAttr,vI_length,hb,hv,Bu,CA,hab] at h)|omega|intro h)
   refine ⟨k+1,by omega, ?_,by omega⟩
   refine Le.of ?_ ?_<;>simp [go_sem,simprocAttr,vI_length,hb,hv,Bu,CA,hab]
  ·have hb:decide ((k:Int)<(la.length:Int))=false:=decide_eq_false (by omega)
   repeat' (first|refine Rn.p ?_|(with_reducible apply And.intro)|((first|(refine hK _ ?_;clear hK K)|with_reducible intro K hK|refine Rs.p ?_|((with_reducible first|apply oP|apply oQ);exact rfl));try simp only [go_sem,simprocAttr,hb])|((with_reducible refine oD ?_ ?_);kernel_rfl)|((with_reducible intro h);try simp only [go_sem,simprocAttr,hb] at h)|omega|intro h)
 (refine Spec.hd (C:=T.cfg [] []) (rs:= [.t 4]) (T.ah _ _) Tryz.func30 rfl rfl Tryz.ntmps30 Tryz.results30 (by simp [AObj.isNest]) (by simp [AObj.isNest]) (by kernel_rfl) T.mixed fun X hX hP hC aB bK=> ?_)
 repeat' (first|refine Rn.p ?_|(with_reducible apply And.intro)|((first|(refine hK _ ?_;clear hK K)|with_reducible intro K hK|refine Rs.p ?_|((with_reducible first|apply oP|apply oQ);exact rfl)|refine aa hX hC hP (hE) rfl rfl rfl (by simp only [go_sem,simprocAttr]) rfl ?_);try simp only [go_sem,simprocAttr])|((with_reducible refine oD ?_ ?_);kernel_rfl)|((with_reducible intro h);try simp only [go_sem,simprocAttr] at h)|omega|intro h)
end Go.Ab
end
section
namespace Go.Ab
open Go.Proofs
attribute [local congr] ACall.congr gd.congr Nx.congr
set_option maxRecDepth 20000
set_option maxHeartbeats 16000000
theorem E8 {k:Nat} :(eY (k+1)).map rI=(eY k).map rI++ [rI (k:Int)]:=by simp [eY,List.range_succ]
end Go.Ab
end
section
namespace Go.Ab
open Go.Proofs
attribute [local congr] ACall.congr gd.congr Nx.congr
set_option maxRecDepth 20000
set_option maxHeartbeats 16000000
theorem qO (g:Gr) (d:Dr) (p:Pl) (xX:g.es.length≤1000) (ez:d.pts.length≤1000) (hls:d.ls.length≤1000) (jK:∀l∈d.ls,l.length≤1000) (h0:(gW g d).1=0) (hp:qK g d p):Spec Tryz.prog 29 (Args [eG g,eDr d]) [] (.tup [ePl p,eN 0]) []:=by
 have hR:=dw g d xX ez hls jK
 obtain ⟨hc0,h⟩:=Jc h0
 rw [hc0] at hR
 have hm:=bW h.s9
 have hn:=bF hm
 obtain ⟨N,hN⟩:∃N:Nat,g.n=N:=⟨g.n.toNat,by omega⟩
 have SQ:g.n.toNat=N:=by omega
 have lo:p.outs.length=N:=by rw [hp.len,SQ]
 have SR:=iT g hm
 have SS:=HI hp
 rw [SQ] at SS
 have Vb:=Cw h SS (fun i hi=>by have:=er.1 hi;omega) (by rw [kN];omega)
 have hO:=fun (x:Nat) (hx:x<N)=>Cq g hm x ⟨by omega,by omega⟩
 have Oj:=fun (x:Nat) (hx:x<N)=>Cu h (x:=(x:Int)) ⟨by omega,by omega⟩ (EZ hp (x:=x) (by omega)) (fun i hi=>by have:=(gZ hi).1;omega) (by have:=je (f:=(·.1)) (es:=g.es) (k:=g.es.length) (x:=(x:Int));show (aZ (·.1) g.es g.es.length (x:Int)).length≤_;omega)
 have Hq:eG g= .agg [eN N, .d (sE g.es)]:=by rw [eG,hN]
 rw [Hq] at hR SR ⊢
 have Wn:eDr d= .agg [.d (sP d.pts), .d (sLn d.ls)]:=rfl
 (refine Spec.hd (C:=T.cfg [28] []) (rs:= [.c 4 28, .t 5]) (T.ah _ _) Tryz.func29 rfl rfl Tryz.ntmps29 Tryz.results29 (by simp [AObj.isNest]) (by simp [AObj.isNest]) (by kernel_rfl) T.mixed fun X hX hP hC aB bK=> ?_)
 repeat' (first|refine Rn.p ?_|(with_reducible apply And.intro)|((first|(refine hK _ ?_;clear hK K)|with_reducible intro K hK|refine Rs.p ?_|((with_reducible first|apply oP|apply oQ);exact rfl)|refine aa hX hC hP (hR) rfl rfl rfl (by simp only [go_sem,simprocAttr,qJ]) rfl ?_|refine aa hX hC hP (SR) rfl rfl rfl (by simp only [go_sem,simprocAttr,qJ]) rfl ?_);try simp only [go_sem,simprocAttr,qJ])|((with_reducible refine oD ?_ ?_);kernel_rfl)|((with_reducible intro h);try simp only [go_sem,simprocAttr,qJ] at h)|omega|intro h)
 (refine kj hX 7 0 200 (.own 3 1 []) rfl rfl rfl (by simp only [go_sem,simprocAttr,qJ]) (by decide) (by simp [go_sem,simprocAttr,qJ]) ⟨3,1,by decide, .inl rfl⟩ ?_;simp only [List.set_cons_zero,List.set_cons_succ,go_sem,simprocAttr,qJ])
 (refine kj hX 7 1 201 (.tip 25 1 []) rfl rfl rfl (by simp only [go_sem,simprocAttr,qJ]) (by decide) (by simp [go_sem,simprocAttr,qJ]) ⟨25,1,by decide, .inr rfl⟩ ?_;simp only [List.set_cons_zero,List.set_cons_succ,go_sem,simprocAttr,qJ])
 refine ag (fun k:Nat=>k≤N) (fun k=>⟨[(2, .ptr 2 0),(3, .ptr 3 0),(4, .ptr 4 0),(5,eN 0),(6, .d (vw g)),(7, .ptr 7 0),(20,eN N),(21,eN k)], [(2, .box [eN N, .d (sE g.es)]),(3, .box [.d (sP d.pts), .d (sLn d.ls)]),(4, .box [.nil 3, .nil 25]),(7, .box [.ref 200, .ref 201]),(200, .own 3 1 ((eY k).map rI)),(201, .tip 25 1 (vI (p.outs.take k)))]⟩) (fun k=>N - k) 0 (by omega) ?_ ?_
 ·refine Le.of ?_ ?_<;>simp [go_sem,simprocAttr,eY,vI]
 rintro k hk
 rcases Nat.lt_or_ge k N with cF|LO
 ·have hb:decide ((k:Int)<(N:Int))=true:=decide_eq_true (by omega)
  have hO:=hO k cF
  have Oj:=Oj k cF
  have gJ:vI (p.outs.take (k+1))=vI (p.outs.take k)++ [[sI (p.outs.getD k [])]]:=by
   simp only [vI];rw [pn (d:= []) (show k<p.outs.length by omega)]
  have hna:=E8 (k:=k)
  have l7:(p.outs.take k).length=k:=by rw [List.length_take];omega
  have Et:(eY k).length=k:=kN
  generalize p.outs.getD k []=L at Oj gJ
  generalize dG g (k:Int)=l at hO Oj
  generalize DG:p.outs.take (k+1)=T2 at gJ
  generalize p.outs.take k=T1 at gJ l7
  generalize J2:(eY (k+1)).map rI=A2 at hna
  generalize eY k=A1 at hna Et
  repeat' (first|(show cA _ (.seq (.region 8 _ _) _) _ _;(refine tg hX 7 0 28 200 rfl rfl rfl (by first|exact .inl rfl|exact .inr rfl) (by decide) (by decide) ?_;simp only [List.set_cons_zero,List.set_cons_succ,go_sem,simprocAttr,hb,l7,Et,qJ]))|(show cA _ (.region 10 _ _) _ _;(refine c9 hX 32 rfl (.inl rfl) ?_;simp only [go_sem,simprocAttr,hb,l7,Et,qJ]))|(show cA _ (.region 11 _ _) _ _;(refine tg hX 7 1 40 201 rfl rfl rfl (by first|exact .inl rfl|exact .inr rfl) (by decide) (by decide) ?_;simp only [List.set_cons_zero,List.set_cons_succ,go_sem,simprocAttr,hb,l7,Et,qJ]))|refine Rn.p ?_|(with_reducible apply And.intro)|((first|(refine hK _ ?_;clear hK K)|with_reducible intro K hK|refine Rs.p ?_|((with_reducible first|apply oP|apply oQ);exact rfl)|(refine iS hX hC hP 32 (hO) rfl rfl rfl ?_ ?_ (by first|exact ⟨_,_,_,rfl,xb⟩|exact ⟨_,_,_,rfl,xd⟩|exact ⟨_,_,_,rfl,xg⟩) rfl (by decide) ?_;(iterate 2 (focus (simp only [go_sem,simprocAttr,hb,l7,Et,qJ];done)));simp only [go_sem,simprocAttr,hb,l7,Et,qJ])|(refine aJ hX hC hP [(10000,32),(10001,3),(10002,8)] (Oj) rfl rfl rfl ?_ ?_ ?_ ?_ ?_ ?_ ?_ ?_ ?_ ?_ ?_ ?_ ?_ ?_;(focus (simp only [go_sem,simprocAttr,hb,l7,Et,qJ];done));(iterate 12 (focus (simp [go_sem,simprocAttr,hb,l7,Et,qJ];done)));try simp only [List.map_cons,List.map_nil]));try simp only [go_sem,simprocAttr,hb,l7,Et,qJ])|((with_reducible refine oD ?_ ?_);kernel_rfl)|((with_reducible intro h);try simp only [go_sem,simprocAttr,hb,l7,Et,qJ] at h)|omega|intro h)
  refine ⟨k+1,by omega, ?_,by omega⟩
  rw [J2,DG,hna,gJ]
  refine Le.of ?_ ?_<;>simp [go_sem,simprocAttr,hb,l7,Et,qJ,rI]
 have hb:decide ((k:Int)<(N:Int))=false:=decide_eq_false (by omega)
 obtain rfl:k=N:=by omega
 rw [show p.outs.take k=p.outs by rw [← lo];exact List.take_length]
 generalize eY k=A1 at*
 repeat' (first|refine Rn.p ?_|(with_reducible apply And.intro)|((first|(refine hK _ ?_;clear hK K)|with_reducible intro K hK|refine Rs.p ?_|((with_reducible first|apply oP|apply oQ);exact rfl)|(refine aJ hX hC hP [(10000,200),(10001,3)] (Vb) rfl rfl rfl ?_ ?_ ?_ ?_ ?_ ?_ ?_ ?_ ?_ ?_ ?_ ?_ ?_ ?_;(focus (simp only [go_sem,simprocAttr,hb,qJ];done));(iterate 12 (focus (simp [go_sem,simprocAttr,hb,qJ];done)));try simp only [List.map_cons,List.map_nil]));try simp only [go_sem,simprocAttr,hb,qJ])|((with_reducible refine oD ?_ ?_);kernel_rfl)|((with_reducible intro h);try simp only [go_sem,simprocAttr,hb,qJ] at h)|omega|intro h)
end Go.Ab
end
section
namespace Go.Ab
open Go.Proofs
attribute [local congr] ACall.congr gd.congr Nx.congr
set_option maxRecDepth 20000
set_option maxHeartbeats 16000000
def SU (n:Nat) (us:List Int):List Bool:=(List.range n).map fun x:Nat=>decide ((x:Int)∈us)
def SV (n:Nat) (ls:List (List Int)) (k:Nat):List (List Int):=(List.range n).map fun x=>if x<k then ls.getD x [] else []
def Vc (b:Br) (u v:Int):Bool:=decide (yB b u<yB b v)||(decide (yB b u=yB b v)&&decide (fB b u<fB b v))
def Wo (b:Br) (a c:Int):Bool:=decide (xB b c<xB b a)
end Go.Ab
end
section
namespace Go.Ab
open Go.Proofs
attribute [local congr] ACall.congr gd.congr Nx.congr
set_option maxRecDepth 20000
set_option maxHeartbeats 16000000
def Js (d:Dr) (u v:Int):Bool:=decide ((dh d u).2<(dh d v).2)||(decide ((dh d u).2=(dh d v).2)&&decide ((dh d u).1<(dh d v).1))
def O2 (d:Dr) (x a c:Int):Bool:=decide (Ac (dh d x) (gn d a) (gn d c)=1)
instance {d:Dr} {x i k:Int} :Decidable (iX d x i k):=inferInstanceAs (Decidable (0<_))
theorem LG {d:Dr} {x a c:Int} (hx:bn (dh d x)) (ha:bn (gn d a)) (hc:bn (gn d c)):O2 d x a c=decide (iX d x c a):=by
 unfold O2 Ac
 rw [if_pos ⟨hx,ha,hc⟩]
 have e:aj (dh d x) (gn d a) (gn d c)=qD d x c a:=by unfold aj qD tm;grind
 rw [e]
 unfold iX gB
 congr 1
 refine propext ⟨fun h=> ?_,fun h=> ?_⟩<;>split at* <;>(try split at*)<;>omega
theorem HO {g:Gr} {d:Dr} (R:s5 g d) {x:Nat} (hx:x<g.n.toNat):(I2 (O2 d x) (dG g x).length (dG g x)).Pairwise (iX d x):=by
 have fA:(dG g (x:Int)).Nodup:=gj
 have hin:∀i∈dG g (x:Int),(0≤i∧i<g.es.length)∧kX g i=x:=fun i hi=>gZ hi
 have hX:bn (dh d x):=R.Lh _ (aD (by have:=R.np;omega))
 have hF:∀i∈dG g (x:Int),bn (gn d i):=fun i hi=>R.kT _ (fS R (hin i hi).1.1 (hin i hi).1.2) _ (aD (by have:=(R.len _ (fS R (hin i hi).1.1 (hin i hi).1.2)).1;omega))
 refine pq (S:=fun i=>i∈dG g (x:Int)) (fun a c e ha hc he h1 h2=>EL R (hin a ha).1 (hin c hc).1 (hin e he).1 (hin a ha).2 (hin c hc).2 (hin e he).2 h1 h2) (fun a c ha hc hne=> ?_) (Nat.le_refl _) fA fun i hi=>hi
 rw [LG hX (hF a ha) (hF c hc)]
 rcases EM R (hin a ha).1 (hin c hc).1 (hin a ha).2 (hin c hc).2 hne with h|h
 ·rw [if_neg (by simp;exact fun h2=>qF h h2)];exact h
 ·rw [if_pos (by simpa using h)];exact h
end Go.Ab
end
section
namespace Go.Ab
open Go.Proofs
attribute [local congr] ACall.congr gd.congr Nx.congr
set_option maxRecDepth 20000
set_option maxHeartbeats 16000000
theorem xP {f:Nat→List Int} {n i:Nat} (h:i<n):((List.range n).map f).getD i []=f i:=by
 rw [List.getD_eq_getElem?_getD,List.getElem?_map,List.getElem?_range h];rfl
theorem AZ {g:Gr} {d:Dr} (h:s5 g d):∃p,qK g d p:=by
 have hnp:=h.np
 have Vd:∀u v:Int,xD g u→xD g v→u≠v→Cr d u v∨Cr d v u:=fun u v hu hv hne=>by
  have Rc:=hu.1;have Wp:=hu.2;have Kk:=hv.1;have II:=hv.2
  have EU:dh d u≠dh d v:=fun e=>by
   rcases Nat.lt_or_gt_of_ne (show u.toNat≠v.toNat by omega) with h1|h1
   ·exact h.alone u.toNat v.toNat h1 (by omega) e
   ·exact h.alone v.toNat u.toNat h1 (by omega) e.symm
  have h2:¬((dh d u).1=(dh d v).1∧(dh d u).2=(dh d v).2):=fun e=>EU (Prod.ext e.1 e.2)
  unfold Cr
  omega
 refine ⟨⟨I2 (fun a c=>Js d c a) g.n.toNat (eY g.n.toNat),(List.range g.n.toNat).map fun x:Nat=>I2 (O2 d x) (dG g x).length (dG g x)⟩,⟨qB, ?_,by simp,fun x hx=> ?_,fun x hx=> ?_⟩⟩
 ·refine pq (S:=fun v=>xD g v) (fun a c d _ _ _ h1 h2=>by unfold Cr at*;omega) (fun a c ha hc hne=> ?_) (by rw [kN];omega) jA fun v hv=>by have:=er.1 hv;exact ⟨by omega,by omega⟩
  have:=Vd a c ha hc hne
  by_cases h1:Js d c a=true
  ·rw [if_pos h1]
   simp only [Js,Bool.or_eq_true,Bool.and_eq_true,decide_eq_true_eq] at h1
   unfold Cr;omega
  ·rw [if_neg h1]
   simp only [Js,Bool.or_eq_true,Bool.and_eq_true,decide_eq_true_eq] at h1
   unfold Cr at*;omega
 ·rw [xP hx];exact qB
 ·rw [xP hx]
  exact HO h hx
end Go.Ab
end
section
namespace Go.Ab
open Go.Proofs
attribute [local congr] ACall.congr gd.congr Nx.congr
set_option maxRecDepth 20000
set_option linter.unusedSectionVars false
set_option maxHeartbeats 16000000
theorem A0 {q:Pt} :Nr q↔qN q.1=true∧qN q.2=true:=by
 unfold Nr qN
 simp only [Bool.and_eq_true,decide_eq_true_eq]
theorem tL {b q:Pt} (hb:Nr b) (hq:Nr q):bn (AR b q)∧bn (gL q):=by
 unfold Nr at hb hq
 unfold bn AR gL
 simp only
 omega
theorem A3 {f:Pt→Pt} {d:Dr} :(fk f d).pts.length=d.pts.length∧(fk f d).ls.length=d.ls.length∧∀n:Nat,(∀l∈d.ls,l.length≤n)→∀l∈(fk f d).ls,l.length≤n:=by
 refine ⟨by simp [fk],by simp [fk],fun n h l hl=> ?_⟩
 obtain ⟨l',h1,rfl⟩:=List.mem_map.1 hl
 rw [List.length_map];exact h l' h1
theorem y8 {g:Gr} {p:Pl} (hr:dF g p):(cI g p).length≤64∧∀l∈cI g p,l.length≤1000:=by
 have hm:=bW hr.1
 have hn:=bF hm
 refine ⟨by rw [gl,hr.2.1.1];omega,fun l hl=> ?_⟩
 obtain ⟨x,hx,rfl⟩:=List.mem_map.1 hl
 have hx:=List.mem_range.1 hx
 have HZ:x<g.n.toNat:=by rw [← hr.2.1.1];exact hx
 have RJ:xD g (x:Int):=⟨by omega,by omega⟩
 rw [vK hr HZ,List.length_append,List.length_map,List.length_map,List.length_reverse]
 have h1:=(y4 hr HZ).1
 obtain ⟨n1,m1⟩:=nh hr RJ
 have h2:=lS n1 (m:=(List.range g.es.length).map Int.ofNat) fun e he=>by
  have:=((m1 e).1 he).1
  exact List.mem_map.2 ⟨e.toNat,List.mem_range.2 (by omega),by show (e.toNat:Int)=_;omega⟩
 simp at h2
 omega
theorem qP (g:Gr) (d:Dr) (b:Pt) (hls:d.ls.length≤9223372036854775807):Spec Tryz.prog 6 (Args [eG g,eDr d,eP b]) [] (eB true) []:=by
 cases hg:mY g d with
 |true=>
  (refine Spec.hd (C:=T.cfg [] []) (rs:= [.t 6]) (T.ah _ _) Tryz.func6 rfl rfl Tryz.ntmps6 Tryz.results6 (by simp [AObj.isNest]) (by simp [AObj.isNest]) (by kernel_rfl) T.mixed fun X hX hP hC aB bK=> ?_)
  repeat' (first|refine Rn.p ?_|(with_reducible apply And.intro)|((first|(refine hK _ ?_;clear hK K)|with_reducible intro K hK|refine Rs.p ?_|((with_reducible first|apply oP|apply oQ);exact rfl)|refine aa hX hC hP (ew) rfl rfl rfl (by simp only [go_sem,simprocAttr,hg]) rfl ?_|refine aa hX hC hP (sJ g d hls) rfl rfl rfl (by simp only [go_sem,simprocAttr,hg]) rfl ?_);try simp only [go_sem,simprocAttr,hg])|((with_reducible refine oD ?_ ?_);kernel_rfl)|((with_reducible intro h);try simp only [go_sem,simprocAttr,hg] at h)|omega|intro h)
 |false=>
 have fL:=hg
 simp only [mY,Bool.or_eq_false_iff,decide_eq_false_iff_not] at fL
 obtain ⟨⟨⟨h1,h2⟩,h3⟩,h4⟩:=fL
 have hl:g.es.length≤1000:=by omega
 have hp:d.pts.length≤1000:=by omega
 have BN:d.ls.length≤1000:=by omega
 have jK:∀l∈d.ls,l.length≤1000:=fun l hl=>by
  have:=(List.any_eq_false.1 h4) l hl
  simp only [decide_eq_true_eq] at this
  omega
 have Mb:=sJ g d hls
 have Mc:=sZ g d hl hp BN jK
 rw [hg] at Mb
 by_cases h0:¬(gW g d).1=0
 ·have hb:decide ((gW g d).1=0)=false:=decide_eq_false h0
  (refine Spec.hd (C:=T.cfg [] []) (rs:= [.t 6]) (T.ah _ _) Tryz.func6 rfl rfl Tryz.ntmps6 Tryz.results6 (by simp [AObj.isNest]) (by simp [AObj.isNest]) (by kernel_rfl) T.mixed fun X hX hP hC aB bK=> ?_)
  repeat' (first|refine Rn.p ?_|(with_reducible apply And.intro)|((first|(refine hK _ ?_;clear hK K)|with_reducible intro K hK|refine Rs.p ?_|((with_reducible first|apply oP|apply oQ);exact rfl)|refine aa hX hC hP (ew) rfl rfl rfl (by simp only [go_sem,simprocAttr,hb]) rfl ?_|refine aa hX hC hP (Mb) rfl rfl rfl (by simp only [go_sem,simprocAttr,hb]) rfl ?_|refine aa hX hC hP (Mc) rfl rfl rfl (by simp only [go_sem,simprocAttr,hb]) rfl ?_);try simp only [go_sem,simprocAttr,hb])|((with_reducible refine oD ?_ ?_);kernel_rfl)|((with_reducible intro h);try simp only [go_sem,simprocAttr,hb] at h)|omega|intro h)
 rw [Decidable.not_not] at h0
 obtain ⟨hc0,h⟩:=Jc h0
 rw [hc0] at Mc
 have Jy:=nW b.1
 have Ol:=nW b.2
 cases aC:qN b.1 with
 |false=>
  rw [aC] at Jy
  (refine Spec.hd (C:=T.cfg [] []) (rs:= [.t 6]) (T.ah _ _) Tryz.func6 rfl rfl Tryz.ntmps6 Tryz.results6 (by simp [AObj.isNest]) (by simp [AObj.isNest]) (by kernel_rfl) T.mixed fun X hX hP hC aB bK=> ?_)
  repeat' (first|refine Rn.p ?_|(with_reducible apply And.intro)|((first|(refine hK _ ?_;clear hK K)|with_reducible intro K hK|refine Rs.p ?_|((with_reducible first|apply oP|apply oQ);exact rfl)|refine aa hX hC hP (ew) rfl rfl rfl (by simp only [go_sem,simprocAttr]) rfl ?_|refine aa hX hC hP (Mb) rfl rfl rfl (by simp only [go_sem,simprocAttr]) rfl ?_|refine aa hX hC hP (Mc) rfl rfl rfl (by simp only [go_sem,simprocAttr]) rfl ?_|refine aa hX hC hP (Jy) rfl rfl rfl (by simp only [go_sem,simprocAttr]) rfl ?_);try simp only [go_sem,simprocAttr])|((with_reducible refine oD ?_ ?_);kernel_rfl)|((with_reducible intro h);try simp only [go_sem,simprocAttr] at h)|omega|intro h)
 |true=>
 cases aI:qN b.2 with
 |false=>
  rw [aC] at Jy
  rw [aI] at Ol
  by_cases Fe:b.1=b.2
  ·rw [Fe,aI] at aC;cases aC
  (refine Spec.hd (C:=T.cfg [] []) (rs:= [.t 6]) (T.ah _ _) Tryz.func6 rfl rfl Tryz.ntmps6 Tryz.results6 (by simp [AObj.isNest]) (by simp [AObj.isNest]) (by kernel_rfl) T.mixed fun X hX hP hC aB bK=> ?_)
  repeat' (first|refine Rn.p ?_|(with_reducible apply And.intro)|((first|(refine hK _ ?_;clear hK K)|with_reducible intro K hK|refine Rs.p ?_|((with_reducible first|apply oP|apply oQ);exact rfl)|refine aa hX hC hP (ew) rfl rfl rfl (by simp only [go_sem,simprocAttr]) rfl ?_|refine aa hX hC hP (Mb) rfl rfl rfl (by simp only [go_sem,simprocAttr]) rfl ?_|refine aa hX hC hP (Mc) rfl rfl rfl (by simp only [go_sem,simprocAttr]) rfl ?_|refine aa hX hC hP (Jy) rfl rfl rfl (by simp only [go_sem,simprocAttr]) rfl ?_|refine aa hX hC hP (Ol) rfl rfl rfl (by simp only [go_sem,simprocAttr]) rfl ?_);try simp only [go_sem,simprocAttr])|((with_reducible refine oD ?_ ?_);kernel_rfl)|((with_reducible intro h);try simp only [go_sem,simprocAttr] at h)|omega|intro h)
 |true=>
 have Md:Nr b:=A0.2 ⟨aC,aI⟩
 rw [aC] at Jy
 rw [aI] at Ol
 (refine Spec.hd (C:=T.cfg [] []) (rs:= [.t 6]) (T.ah _ _) Tryz.func6 rfl rfl Tryz.ntmps6 Tryz.results6 (by simp [AObj.isNest]) (by simp [AObj.isNest]) (by kernel_rfl) T.mixed fun X hX hP hC aB bK=> ?_)
 repeat' (first|refine Rn.p ?_|(with_reducible apply And.intro)|((first|(refine hK _ ?_;clear hK K)|with_reducible intro K hK|refine Rs.p ?_|((with_reducible first|apply oP|apply oQ);exact rfl)|refine aa hX hC hP (ew) rfl rfl rfl (by simp only [go_sem,simprocAttr]) rfl ?_|refine aa hX hC hP (Mb) rfl rfl rfl (by simp only [go_sem,simprocAttr]) rfl ?_|refine aa hX hC hP (Mc) rfl rfl rfl (by simp only [go_sem,simprocAttr]) rfl ?_|refine aa hX hC hP (Jy) rfl rfl rfl (by simp only [go_sem,simprocAttr]) rfl ?_|refine aa hX hC hP (Ol) rfl rfl rfl (by simp only [go_sem,simprocAttr]) rfl ?_);try simp only [go_sem,simprocAttr])|((with_reducible refine oD ?_ ?_);kernel_rfl)|((with_reducible intro h);try simp only [go_sem,simprocAttr] at h)|omega|intro h)
 obtain ⟨Rw,O3⟩:∃Rw,Rw=d.pts::d.ls:=⟨_,rfl⟩
 have Ve:∀l∈Rw,l.length≤1000:=fun l hl=>by
  rw [O3] at hl
  rcases List.mem_cons.1 hl with rfl|h2
  ·exact hp
  ·exact jK l h2
 have LB:Rw.length≤1001:=by rw [O3];simp;omega
 refine ag (fun k:Nat=>k≤Rw.length∧∀i,i<k→∀q∈Rw.getD i [],Nr q) (fun k=>⟨[(3, .ptr 3 0),(4, .ptr 4 0),(5, .ptr 5 0),(9, .fn 24 [] []),(55, .ref 55),(56,eN Rw.length),(57,eN k)], [(55, .tip 47 1 (vP Rw)),(5, .box [eN b.1,eN b.2]),(4, .box [.d (sP d.pts), .d (sLn d.ls)]),(3, .box [eN g.n, .d (sE g.es)])]⟩) (fun k=>Rw.length - k) 0 ⟨by omega,fun i hi=>by omega⟩ ?_ ?_
 ·refine Le.of ?_ ?_<;>simp [go_sem,simprocAttr,O3,vP]
 rintro k ⟨hk,hN⟩
 have hvl:(vP Rw).length=Rw.length:=by simp [vP]
 rcases Nat.lt_or_ge k Rw.length with hlt|hge
 ·have hbk:decide ((k:Int)<(Rw.length:Int))=true:=decide_eq_true (by omega)
  have oL:∀e,(vP Rw).getD k e= [sP (Rw.getD k [])]:=fun e=>by
   simp [vP,List.getD_eq_getElem?_getD,List.getElem?_eq_getElem hlt]
  have hml:=Ve _ (aD (d:= []) hlt)
  have SX:(∀q∈Rw.getD k [],Nr q)→∀i,i<k+1→∀q∈Rw.getD i [],Nr q:=fun hh i hi=>by
   rcases Nat.lt_or_ge i k with h5|h5
   ·exact hN i h5
   ·obtain rfl:i=k:=by omega
    exact hh
  generalize Rw.getD k []=l at oL hml SX
  repeat' (first|refine Rn.p ?_|(with_reducible apply And.intro)|((first|(refine hK _ ?_;clear hK K)|with_reducible intro K hK|refine Rs.p ?_|((with_reducible first|apply oP|apply oQ);exact rfl)|refine aa hX hC hP (ew) rfl rfl rfl (by simp only [go_sem,simprocAttr,hbk,oL,hvl]) rfl ?_|refine aa hX hC hP (Mb) rfl rfl rfl (by simp only [go_sem,simprocAttr,hbk,oL,hvl]) rfl ?_|refine aa hX hC hP (Mc) rfl rfl rfl (by simp only [go_sem,simprocAttr,hbk,oL,hvl]) rfl ?_|refine aa hX hC hP (Jy) rfl rfl rfl (by simp only [go_sem,simprocAttr,hbk,oL,hvl]) rfl ?_|refine aa hX hC hP (Ol) rfl rfl rfl (by simp only [go_sem,simprocAttr,hbk,oL,hvl]) rfl ?_);try simp only [go_sem,simprocAttr,hbk,oL,hvl])|((with_reducible refine oD ?_ ?_);kernel_rfl)|((with_reducible intro h);try simp only [go_sem,simprocAttr,hbk,oL,hvl] at h)|omega|intro h)
  refine ag (fun j:Nat=>j≤l.length∧∀i,i<j→Nr (l.getD i (0,0))) (fun j=>⟨[(3, .ptr 3 0),(4, .ptr 4 0),(5, .ptr 5 0),(9, .fn 24 [] []),(55, .ref 55),(56,eN Rw.length),(57,eN k),(61, .d (sP l)),(62,eN l.length),(63,eN j)], [(55, .tip 47 1 (vP Rw)),(5, .box [eN b.1,eN b.2]),(4, .box [.d (sP d.pts), .d (sLn d.ls)]),(3, .box [eN g.n, .d (sE g.es)])]⟩) (fun j=>l.length - j) 0 ⟨by omega,fun i hi=>by omega⟩ ?_ ?_
  ·refine Le.of ?_ ?_<;>simp [go_sem,simprocAttr]
  rintro j ⟨hj,hM⟩
  rcases Nat.lt_or_ge j l.length with hjl|L1
  ·have Bc:decide ((j:Int)<(l.length:Int))=true:=decide_eq_true (by omega)
   have SY:Nr (l.getD j (0,0))→∀i,i<j+1→Nr (l.getD i (0,0)):=fun hh i hi=>by
    rcases Nat.lt_or_ge i j with h5|h5
    ·exact hM i h5
    ·obtain rfl:i=j:=by omega
     exact hh
   generalize wv:l.getD j (0,0)=q at SY
   have Me:=nW q.1
   have Om:=nW q.2
   cases hq1:qN q.1 with
   |false=>
    rw [hq1] at Me
    repeat' (first|refine Rn.p ?_|(with_reducible apply And.intro)|((first|(refine hK _ ?_;clear hK K)|with_reducible intro K hK|refine Rs.p ?_|((with_reducible first|apply oP|apply oQ);exact rfl)|refine aa hX hC hP (Me) rfl rfl rfl (by simp only [go_sem,simprocAttr,Bc,wv]) rfl ?_);try simp only [go_sem,simprocAttr,Bc,wv])|((with_reducible refine oD ?_ ?_);kernel_rfl)|((with_reducible intro h);try simp only [go_sem,simprocAttr,Bc,wv] at h)|omega|intro h)
   |true=>
   rw [hq1] at Me
   cases A8:qN q.2 with
   |false=>
    rw [A8] at Om
    repeat' (first|refine Rn.p ?_|(with_reducible apply And.intro)|((first|(refine hK _ ?_;clear hK K)|with_reducible intro K hK|refine Rs.p ?_|((with_reducible first|apply oP|apply oQ);exact rfl)|refine aa hX hC hP (Me) rfl rfl rfl (by simp only [go_sem,simprocAttr,Bc,wv]) rfl ?_|refine aa hX hC hP (Om) rfl rfl rfl (by simp only [go_sem,simprocAttr,Bc,wv]) rfl ?_);try simp only [go_sem,simprocAttr,Bc,wv])|((with_reducible refine oD ?_ ?_);kernel_rfl)|((with_reducible intro h);try simp only [go_sem,simprocAttr,Bc,wv] at h)|omega|intro h)
   |true=>
   rw [A8] at Om
   repeat' (first|refine Rn.p ?_|(with_reducible apply And.intro)|((first|(refine hK _ ?_;clear hK K)|with_reducible intro K hK|refine Rs.p ?_|((with_reducible first|apply oP|apply oQ);exact rfl)|refine aa hX hC hP (Me) rfl rfl rfl (by simp only [go_sem,simprocAttr,Bc,wv]) rfl ?_|refine aa hX hC hP (Om) rfl rfl rfl (by simp only [go_sem,simprocAttr,Bc,wv]) rfl ?_);try simp only [go_sem,simprocAttr,Bc,wv])|((with_reducible refine oD ?_ ?_);kernel_rfl)|((with_reducible intro h);try simp only [go_sem,simprocAttr,Bc,wv] at h)|omega|intro h)
   refine ⟨j+1,⟨by omega,SY (A0.2 ⟨hq1,A8⟩)⟩, ?_,by omega⟩
   refine Le.of ?_ ?_<;>simp [go_sem,simprocAttr]
  have Bc:decide ((j:Int)<(l.length:Int))=false:=decide_eq_false (by omega)
  obtain rfl:j=l.length:=by omega
  repeat' (first|refine Rn.p ?_|(with_reducible apply And.intro)|((first|(refine hK _ ?_;clear hK K)|with_reducible intro K hK|refine Rs.p ?_|((with_reducible first|apply oP|apply oQ);exact rfl)|refine aa hX hC hP (Me) rfl rfl rfl (by simp only [go_sem,simprocAttr,Bc]) rfl ?_|refine aa hX hC hP (Om) rfl rfl rfl (by simp only [go_sem,simprocAttr,Bc]) rfl ?_);try simp only [go_sem,simprocAttr,Bc])|((with_reducible refine oD ?_ ?_);kernel_rfl)|((with_reducible intro h);try simp only [go_sem,simprocAttr,Bc] at h)|omega|intro h)
  refine ⟨k+1,⟨by omega,SX fun q hq=> ?_⟩, ?_,by omega⟩
  ·obtain ⟨i,hi,rfl⟩:=List.getElem_of_mem hq
   have:=hM i hi
   rwa [List.getD_eq_getElem?_getD,List.getElem?_eq_getElem hi] at this
  refine Le.of ?_ ?_<;>simp [go_sem,simprocAttr]
 have hbk:decide ((k:Int)<(Rw.length:Int))=false:=decide_eq_false (by omega)
 obtain rfl:k=Rw.length:=by omega
 have LH:∀l∈Rw,∀q∈l,Nr q:=fun l hl q hq=>by
  obtain ⟨i,hi,rfl⟩:=List.getElem_of_mem hl
  refine hN i hi q ?_
  rw [List.getD_eq_getElem?_getD,List.getElem?_eq_getElem hi];exact hq
 rw [O3] at LH
 have O4:∀q∈d.pts,Nr q:=fun q hq=>LH _ List.mem_cons_self q hq
 have J2:∀l∈d.ls,∀q∈l,Nr q:=fun l hl q hq=>LH _ (List.mem_cons_of_mem _ hl) q hq
 have hp1:=AX b d 26 [.ptr 10000 0] (.inr rfl) (AR b) (fun q hq=>AU b q Md (O4 q hq)) (fun l hl q hq=>AU b q Md (J2 l hl q hq)) hp BN jK
 have hp2:=AX b d 27 [] (.inl rfl) gL (fun q hq=>AW b q (O4 q hq)) (fun l hl q hq=>AW b q (J2 l hl q hq)) hp BN jK
 have hF:=u6.1 h0
 have f1:=AQ Jh h (fun q hq=>(tL Md (O4 q hq)).1) (fun l hl q hq=>(tL Md (J2 l hl q hq)).1) hF
 have f2:=AQ Ji h (fun q hq=>(tL Md (O4 q hq)).2) (fun l hl q hq=>(tL Md (J2 l hl q hq)).2) hF
 have z1:=u6.2 f1
 have z2:=u6.2 f2
 obtain ⟨hc1,_⟩:=Jc z1
 obtain ⟨JI,h'⟩:=Jc z2
 obtain ⟨m1,m2,m3⟩:=A3 (f:=AR b) (d:=d)
 obtain ⟨t1,t2,t3⟩:=A3 (f:=gL) (d:=d)
 have On:=dw g (fk (AR b) d) hl (by omega) (by omega) (m3 1000 jK)
 have Oo:=dw g (fk gL d) hl (by omega) (by omega) (t3 1000 jK)
 rw [hc1] at On
 rw [JI] at Oo
 obtain ⟨p,LP⟩:=AZ h
 obtain ⟨q,O5⟩:=AZ h'
 have RL:=qO g d p hl hp BN jK h0 LP
 have RM:=qO g (fk gL d) q hl (by omega) (by omega) (t3 1000 jK) z2 O5
 have pM:=kR h LP
 have uf:=kR h' O5
 have Vf:=xN g hl p pM
 have DG:=xN g hl q uf
 obtain ⟨s1,s2⟩:=y8 pM
 have Vg:=y5 (cI g p) (by omega) (fun l hl=>by have:=s2 l hl;omega)
 have MY:(cI g p).length=g.n.toNat:=by rw [gl,LP.len]
 have hn2:(cI g q).length=g.n.toNat:=by rw [gl,O5.len]
 have Vh:=Cz ((cI g p).map List.reverse) (cI g q) (by rw [List.length_map];omega) (fun l hl=>by
  obtain ⟨l',h5,rfl⟩:=List.mem_map.1 hl
  have:=s2 l' h5
  rw [List.length_reverse];omega) (by rw [List.length_map];omega) (fun x hx=>by
  rw [List.length_map] at hx
  obtain ⟨B,C,e1,e2⟩:=HN h h' LP O5 (x:=x) (by omega)
  refine ⟨B,C, ?_,e2⟩
  rw [← e1,List.getD_eq_getElem?_getD,List.getElem?_map,List.getD_eq_getElem?_getD,List.getElem?_eq_getElem (by omega)]
  rfl)
 generalize cI g p=T1 at*
 generalize cI g q=T2 at*
 generalize fk (AR b) d=D1 at*
 generalize fk gL d=D2 at*
 repeat' (first|refine Rn.p ?_|(with_reducible apply And.intro)|((first|(refine hK _ ?_;clear hK K)|with_reducible intro K hK|refine Rs.p ?_|((with_reducible first|apply oP|apply oQ);exact rfl)|(refine aP hX hC hP [(10000,5),(10001,4)] (hp1) rfl rfl rfl ?_ ?_ ?_ ?_ ?_ ?_ rfl rfl ?_ ?_;(focus (simp only [go_sem,simprocAttr,hbk];done));(iterate 6 (focus (simp [go_sem,simprocAttr,hbk];done)));try simp only [List.map_cons,List.map_nil])|(refine aP hX hC hP [(10000,5),(10001,4)] (hp2) rfl rfl rfl ?_ ?_ ?_ ?_ ?_ ?_ rfl rfl ?_ ?_;(focus (simp only [go_sem,simprocAttr,hbk];done));(iterate 6 (focus (simp [go_sem,simprocAttr,hbk];done)));try simp only [List.map_cons,List.map_nil])|refine aa hX hC hP (On) rfl rfl rfl (by simp only [go_sem,simprocAttr,hbk]) rfl ?_|refine aa hX hC hP (Oo) rfl rfl rfl (by simp only [go_sem,simprocAttr,hbk]) rfl ?_|refine aa hX hC hP (RL) rfl rfl rfl (by simp only [go_sem,simprocAttr,hbk]) rfl ?_|refine aa hX hC hP (RM) rfl rfl rfl (by simp only [go_sem,simprocAttr,hbk]) rfl ?_|refine aa hX hC hP (Vf) rfl rfl rfl (by simp only [go_sem,simprocAttr,hbk]) rfl ?_|refine aa hX hC hP (DG) rfl rfl rfl (by simp only [go_sem,simprocAttr,hbk]) rfl ?_|refine aa hX hC hP (Vg) rfl rfl rfl (by simp only [go_sem,simprocAttr,hbk]) rfl ?_|refine aa hX hC hP (Vh) rfl rfl rfl (by simp only [go_sem,simprocAttr,hbk]) rfl ?_);try simp only [go_sem,simprocAttr,hbk])|((with_reducible refine oD ?_ ?_);kernel_rfl)|((with_reducible intro h);try simp only [go_sem,simprocAttr,hbk] at h)|omega|intro h)
end Go.Ab
end
