/- A part of the proof. -/
import Derived.Test.YtchjjbfhlchpfaaGreatL7P18
set_option linter.unusedSimpArgs false
set_option linter.unusedVariables false
section
namespace Go.Ab
open Go.Proofs
attribute [local congr] ACall.congr gd.congr Nx.congr
set_option maxRecDepth 20000
set_option maxHeartbeats 16000000
theorem DH (g:Gr) (hl:g.es.length≤1000) (p:Pl) (hp:lR p) (hp1:p.ord.length≤1000) (hp2:p.outs.length≤1000) (Oy:∀l∈p.outs,l.length≤1000) (b:Bool) (hr:b=true↔(bN g).1=0∧bk g p):
 Spec Tryz.prog 33 (Args [eG g,ePl p]) [] (.tup [eDr (HY b g p).1,eN (HY b g p).2]) []:=by
 have MV:=xP g hl p hp hp1 hp2 Oy b hr
 by_cases h0:(mJ b g p).2.2=0
 rotate_left
 ·have Mg:HY b g p=(dz,(mJ b g p).2.2):=if_pos h0
  have hb0:decide ((mJ b g p).2.2=0)=false:=decide_eq_false h0
  rw [Mg]
  (refine Spec.hd (C:=T.cfg [] []) (rs:= [.c 4 28, .t 5]) (T.ah _ _) Tryz.func33 rfl rfl Tryz.ntmps33 Tryz.results33 (by simp [AObj.isNest]) (by simp [AObj.isNest]) (by kernel_rfl) T.mixed fun X hX hP hC aJ bQ=> ?_)
  repeat' (first|refine Rn.p ?_|(with_reducible apply And.intro)|((first|(refine hK _ ?_;clear hK K)|with_reducible intro K hK|refine Rs.p ?_|((with_reducible first|apply oP|apply oQ);exact rfl)|refine aa hX hC hP (MV) rfl rfl rfl (by simp only [go_sem,simprocAttr,hb0,dz]) rfl ?_);try simp only [go_sem,simprocAttr,hb0,dz])|((with_reducible refine oD ?_ ?_);kernel_rfl)|((with_reducible intro h);try simp only [go_sem,simprocAttr,hb0,dz] at h)|omega|intro h)
  all_goals rfl
 obtain ⟨hO,hE⟩:=HT hr h0
 rw [hE] at MV
 have Kg:=lS hO
 have P7:=FU hO
 have Sl:(bP true (aq g p) (bG g p)).2.1=0:=by rw [kR (j6 Kg) Kg]
 by_cases h1:64<(aq g p).n+(cM (aq g p)).length∨128<(aq g p).es.length+(cM (aq g p)).length
 ·have Mg:HY b g p=(dz,10):=by unfold HY;rw [if_neg (by rw [h0];simp),if_pos h1]
  have hN:=uO (aq g p) (by have:=hO.es;omega) (bG g p) (rZ Kg) true (j6 Kg) Sl P7 h1
  rw [Mg]
  (refine Spec.hd (C:=T.cfg [] []) (rs:= [.c 4 28, .t 5]) (T.ah _ _) Tryz.func33 rfl rfl Tryz.ntmps33 Tryz.results33 (by simp [AObj.isNest]) (by simp [AObj.isNest]) (by kernel_rfl) T.mixed fun X hX hP hC aJ bQ=> ?_)
  repeat' (first|refine Rn.p ?_|(with_reducible apply And.intro)|((first|(refine hK _ ?_;clear hK K)|with_reducible intro K hK|refine Rs.p ?_|((with_reducible first|apply oP|apply oQ);exact rfl)|refine aa hX hC hP (MV) rfl rfl rfl (by simp only [go_sem,simprocAttr,dz]) rfl ?_|refine aa hX hC hP (hN) rfl rfl rfl (by simp only [go_sem,simprocAttr,dz]) rfl ?_);try simp only [go_sem,simprocAttr,dz])|((with_reducible refine oD ?_ ?_);kernel_rfl)|((with_reducible intro h);try simp only [go_sem,simprocAttr,dz] at h)|omega|intro h)
  all_goals rfl
 have Mg:HY b g p=(OV g (aq g p).n (cM (aq g p)) (DG g p false) (DG g p true),0):=by unfold HY;rw [if_neg (by rw [h0];simp),if_neg h1]
 have P8:Room g p:=⟨hO,by omega,by omega⟩
 rw [Mg]
 have hN:=wm (aq g p) (by have:=hO.es;omega) (bG g p) (rZ Kg) Kg P7 (cM (aq g p)) rfl (by omega) (by omega)
 have Gl:=Gk P8
 have hk:=Bg (aD (aq g p) (cM (aq g p))) (by rw [cl];omega) (lU (aq g p) (bG g p) (cM (aq g p))) (rZ Gl) true (j6 Gl)
 have uY:JP true (aD (aq g p) (cM (aq g p))) (lU (aq g p) (bG g p) (cM (aq g p)))=(DG g p false,DG g p true,0):=if_pos ⟨by rw [kR (j6 Gl) Gl],HZ P8⟩
 rw [uY] at hk
 simp only at hk
 have hm:=an hO.run.1
 have hn:=aB hm
 have DS:=jX (g:=g) (p:=p)
 have lx:(DG g p false).length=((aq g p).n+(cM (aq g p)).length).toNat:=Cm
 have ly:(DG g p true).length=((aq g p).n+(cM (aq g p)).length).toNat:=Cm
 have AJ:=iW (g:=aq g p)
 have hfind:=fun i=>zV (g:=aq g p) AJ.nd (i:=i)
 have hval:=fun i hi=>H6 (g:=aq g p) AJ.nd (i:=i) hi
 have Ow:∀i∈cM (aq g p),(cM (aq g p)).idxOf i<(cM (aq g p)).length:=fun i hi=>(qf hi).1
 generalize DG g p false=xs at*
 generalize DG g p true=ys at*
 generalize cM (aq g p)=bs at*
 have ef:aD (aq g p) bs=⟨(aq g p).n+bs.length,jc (aq g p) bs⟩:=rfl
 have My:lU (aq g p) (bG g p) bs=⟨ee (aq g p) bs bs.length (bG g p).ord,(bG g p).outs++jd (aq g p) bs.length⟩:=rfl
 rw [ef,My] at hk
 have Tj:(aq g p).n≤64:=hO.n
 generalize k7 (aq g p) bs bs.length=aj at*
 generalize jc (aq g p) bs=E at*
 generalize ee (aq g p) bs bs.length (bG g p).ord=RO at*
 generalize (bG g p).outs++jd (aq g p) bs.length=RL at*
 generalize bG g p=AP at*
 obtain ⟨AN,zW⟩:∃AN:Nat,(aq g p).n=AN:=⟨(aq g p).n.toNat,by omega⟩
 generalize Tk:aq g p=A at*
 have pn:∀v:Nat,v<AN+bs.length→Spec Tryz.prog 77 (Args [eN v, .ptr 10001 0, .ptr 10002 0]) [(10001, .rob [.d (sI xs)]),(10002, .rob [.d (sI ys)])] (.agg [eN (xs.getD v 0),eN (ys.getD v 0)]) [(10001, .rob [.d (sI xs)]),(10002, .rob [.d (sI ys)])]:=fun v hv=>H7 xs ys v (by omega) (by omega) (by omega) (by omega)
 (refine Spec.hd (C:=T.cfg [] []) (rs:= [.c 4 28, .t 5]) (T.ah _ _) Tryz.func33 rfl rfl Tryz.ntmps33 Tryz.results33 (by simp [AObj.isNest]) (by simp [AObj.isNest]) (by kernel_rfl) T.mixed fun X hX hP hC aJ bQ=> ?_)
 repeat' (first|(show bV _ (.seq (.region 7 _ _) _) _ _;(refine cE hX 301 rfl (.inl rfl) ?_;simp only [go_sem,simprocAttr,gY,zW]);(refine cE hX 302 rfl (.inl rfl) ?_;simp only [go_sem,simprocAttr,gY,zW]);(refine cE hX 303 rfl (.inl rfl) ?_;simp only [go_sem,simprocAttr,gY,zW]))|(show bV _ (.seq (.region 10 _ _) _) _ _;(refine jD hX 14 0 401 (.tip 71 2 []) rfl rfl rfl (by simp only [go_sem,simprocAttr,gY,zW]) (by decide) (by simp [go_sem,simprocAttr,gY,zW]) ⟨71,2,by decide, .inr rfl⟩ ?_;simp only [List.set_cons_zero,List.set_cons_succ,go_sem,simprocAttr,gY,zW]);(refine jD hX 14 1 402 (.tip 25 1 []) rfl rfl rfl (by simp only [go_sem,simprocAttr,gY,zW]) (by decide) (by simp [go_sem,simprocAttr,gY,zW]) ⟨25,1,by decide, .inr rfl⟩ ?_;simp only [List.set_cons_zero,List.set_cons_succ,go_sem,simprocAttr,gY,zW]))|refine Rn.p ?_|(with_reducible apply And.intro)|((first|(refine hK _ ?_;clear hK K)|with_reducible intro K hK|refine Rs.p ?_|((with_reducible first|apply oP|apply oQ);exact rfl)|refine aa hX hC hP (MV) rfl rfl rfl (by simp only [go_sem,simprocAttr,gY,zW]) rfl ?_|(refine ak hX hC hP [(10000,300),(10001,301),(10002,302),(10003,303),(10004,304)] (hN) rfl rfl rfl ?_ ?_ ?_ ?_ ?_ ?_ ?_ ?_ ?_ ?_ ?_ ?_ ?_ ?_;(focus (simp only [go_sem,simprocAttr,gY,zW];done));(iterate 12 (focus (simp [go_sem,simprocAttr,gY,zW];done)));try simp only [List.map_cons,List.map_nil])|(refine cz hX hC hP (hk) rfl rfl rfl ?_ ?_ rfl ?_;iterate 2 (focus (simp only [go_sem,simprocAttr,gY,zW];done))));try simp only [go_sem,simprocAttr,gY,zW])|((with_reducible refine oD ?_ ?_);kernel_rfl)|((with_reducible intro h);try simp only [go_sem,simprocAttr,gY,zW] at h)|omega|intro h)
 refine ai (fun k:Nat=>k≤g.n.toNat) (fun k=>⟨[(2, .ptr 2 0),(4, .ptr 4 0),(5,eN 0),(9, .ptr 300 0),(13, .fn 77 [] [.ptr 10 0, .ptr 11 0]),(14, .ptr 14 0),(58,eN g.n),(59,eN k)], [(2, .box [eN g.n, .d (sE g.es)]),(4, .box [.nil 71, .nil 25]),(10, .box [.d (sI xs)]),(11, .box [.d (sI ys)]),(14, .box [.ref 401, .ref 402]),(300, .box [eN ((AN:Int)+(bs.length:Int)), .d (sE E), .d (sI RO), .d (.sl 1 (vI RL)), .mref 304]),(304, .mp 0 aj),(401, .tip 71 2 ((qV xs ys k).map rP)),(402, .tip 25 1 [])]⟩) (fun k=>g.n.toNat - k) 0 (by omega) ?_ ?_
 ·refine Le.of ?_ ?_<;>simp [go_sem,simprocAttr,qV,zW]
 rintro k hk
 rcases Nat.lt_or_ge k g.n.toNat with hlt|hge
 ·have hb:decide ((k:Int)<g.n)=true:=decide_eq_true (by omega)
  have hc:=pn k (by omega)
  have cn:=Gh (xs:=xs) (ys:=ys) (k:=k)
  have dn:=Cl (xs:=xs) (ys:=ys) (k:=k)
  generalize Sm:qV xs ys (k+1)=P2 at cn
  generalize qV xs ys k=P1 at cn dn
  repeat' (first|(show bV _ (.region 14 _ _) _ _;(refine dJ hX 14 0 68 401 rfl rfl rfl (by first|exact .inl rfl|exact .inr rfl) (by decide) (by decide) ?_;simp only [List.set_cons_zero,List.set_cons_succ,go_sem,simprocAttr,hb,dn]))|refine Rn.p ?_|(with_reducible apply And.intro)|((first|(refine hK _ ?_;clear hK K)|with_reducible intro K hK|refine Rs.p ?_|((with_reducible first|apply oP|apply oQ);exact rfl)|(refine bt hX hC hP [(10001,10),(10002,11)] (hc) rfl rfl rfl ?_ ?_ ?_ ?_ ?_ ?_ rfl rfl ?_ ?_;(focus (simp only [go_sem,simprocAttr,hb,dn];done));(iterate 6 (focus (simp [go_sem,simprocAttr,hb,dn];done)));try simp only [List.map_cons,List.map_nil]));try simp only [go_sem,simprocAttr,hb,dn])|((with_reducible refine oD ?_ ?_);kernel_rfl)|((with_reducible intro h);try simp only [go_sem,simprocAttr,hb,dn] at h)|omega|intro h)
  refine ⟨k+1,by omega, ?_,by omega⟩
  rw [Sm,cn]
  refine Le.of ?_ ?_<;>simp [go_sem,simprocAttr,hb,dn,DF,rP]
 have hb:decide ((k:Int)<g.n)=false:=decide_eq_false (by omega)
 obtain rfl:k=g.n.toNat:=by omega
 repeat' (first|refine Rn.p ?_|(with_reducible apply And.intro)|((first|(refine hK _ ?_;clear hK K)|with_reducible intro K hK|refine Rs.p ?_|((with_reducible first|apply oP|apply oQ);exact rfl));try simp only [go_sem,simprocAttr,hb])|((with_reducible refine oD ?_ ?_);kernel_rfl)|((with_reducible intro h);try simp only [go_sem,simprocAttr,hb] at h)|omega|intro h)
 have Sn:OV g (AN:Int) bs xs ys=⟨qV xs ys g.n.toNat,uQ g (AN:Int) bs xs ys g.es.length⟩:=rfl
 have dn:=Cl (xs:=xs) (ys:=ys) (k:=g.n.toNat)
 rw [Sn]
 generalize qV xs ys g.n.toNat=PT at dn
 refine ai (fun i:Nat=>i≤g.es.length) (fun i=>⟨[(2, .ptr 2 0),(4, .ptr 4 0),(5,eN 0),(9, .ptr 300 0),(13, .fn 77 [] [.ptr 10 0, .ptr 11 0]),(14, .ptr 14 0),(72, .d (sE g.es)),(73,eN g.es.length),(74,eN i)], [(2, .box [eN g.n, .d (sE g.es)]),(4, .box [.nil 71, .nil 25]),(10, .box [.d (sI xs)]),(11, .box [.d (sI ys)]),(14, .box [.ref 401, .ref 402]),(300, .box [eN ((AN:Int)+(bs.length:Int)), .d (sE E), .d (sI RO), .d (.sl 1 (vI RL)), .mref 304]),(304, .mp 0 aj),(401, .tip 71 2 (PT.map rP)),(402, .tip 25 1 (vP (uQ g (AN:Int) bs xs ys i)))]⟩) (fun i=>g.es.length - i) 0 (by omega) ?_ ?_
 ·refine Le.of ?_ ?_<;>simp [go_sem,simprocAttr,uQ,vP]
 rintro i hi
 rcases Nat.lt_or_ge i g.es.length with hil|J6
 ·have hb:decide ((i:Int)<(g.es.length:Int))=true:=decide_eq_true (by omega)
  have t1:=aU hm hil
  have t2:=aZ hm hil
  obtain ⟨u,hu⟩:∃u:Nat,(g.es.getD i (0,0)).1=u:=⟨(g.es.getD i (0,0)).1.toNat,by have:=t1.1;unfold tl at this;omega⟩
  obtain ⟨w,hw⟩:∃w:Nat,(g.es.getD i (0,0)).2=w:=⟨(g.es.getD i (0,0)).2.toNat,by have:=t2.1;unfold hd at this;omega⟩
  have P9:tl g i=u:=hu
  have Qa:hd g i=w:=hw
  have hc1:=pn u (by omega)
  have BM:=pn w (by omega)
  have cn:=Gi (g:=g) (N:=(AN:Int)) (bs:=bs) (xs:=xs) (ys:=ys) (k:=i)
  have jh:=HX (g:=g) (N:=(AN:Int)) (bs:=bs) (xs:=xs) (ys:=ys) (k:=i)
  have Qb:∀l1 l2,vP (l1++ [l2])=vP l1++ [[sP l2]]:=fun l1 l2=>by simp [vP]
  have vf:=hfind (i:Int)
  generalize Qc:uQ g (AN:Int) bs xs ys (i+1)=L2 at cn
  generalize uQ g (AN:Int) bs xs ys i=L1 at cn jh
  by_cases hin:(i:Int)∈bs
  ·rw [if_pos hin] at vf
   have DI:=hval (i:Int) hin
   have hq:=Ow (i:Int) hin
   have Fa:Kf g (AN:Int) bs xs ys i= [DF xs ys u,DF xs ys (AN+bs.idxOf (i:Int)),DF xs ys w]:=by
    unfold Kf Gg
    rw [if_pos hin,P9,Qa,Int.toNat_natCast,Int.toNat_natCast,show ((AN:Int)+(bs.idxOf (i:Int):Nat)).toNat=AN+bs.idxOf (i:Int) by omega]
    rfl
   generalize bs.idxOf (i:Int)=q at vf DI hq Fa
   rw [zW,show (AN:Int)+(q:Int)=((AN+q:Nat):Int) by omega] at DI
   have Hq:=pn (AN+q) (by omega)
   generalize AN+q=qq at DI Fa Hq
   repeat' (first|(show bV _ (.region 23 _ _) _ _;(refine dJ hX 14 1 110 402 rfl rfl rfl (by first|exact .inl rfl|exact .inr rfl) (by decide) (by decide) ?_;simp only [List.set_cons_zero,List.set_cons_succ,go_sem,simprocAttr,hb,hu,hw,vf,DI,vP_length,jh,Option.isSome_some]))|refine Rn.p ?_|(with_reducible apply And.intro)|((first|(refine hK _ ?_;clear hK K)|with_reducible intro K hK|refine Rs.p ?_|((with_reducible first|apply oP|apply oQ);exact rfl)|(refine bt hX hC hP [(10001,10),(10002,11)] (hc1) rfl rfl rfl ?_ ?_ ?_ ?_ ?_ ?_ rfl rfl ?_ ?_;(focus (simp only [go_sem,simprocAttr,hb,hu,hw,vf,DI,vP_length,jh,Option.isSome_some];done));(iterate 6 (focus (simp [go_sem,simprocAttr,hb,hu,hw,vf,DI,vP_length,jh,Option.isSome_some];done)));try simp only [List.map_cons,List.map_nil])|(refine bt hX hC hP [(10001,10),(10002,11)] (BM) rfl rfl rfl ?_ ?_ ?_ ?_ ?_ ?_ rfl rfl ?_ ?_;(focus (simp only [go_sem,simprocAttr,hb,hu,hw,vf,DI,vP_length,jh,Option.isSome_some];done));(iterate 6 (focus (simp [go_sem,simprocAttr,hb,hu,hw,vf,DI,vP_length,jh,Option.isSome_some];done)));try simp only [List.map_cons,List.map_nil])|(refine bt hX hC hP [(10001,10),(10002,11)] (Hq) rfl rfl rfl ?_ ?_ ?_ ?_ ?_ ?_ rfl rfl ?_ ?_;(focus (simp only [go_sem,simprocAttr,hb,hu,hw,vf,DI,vP_length,jh,Option.isSome_some];done));(iterate 6 (focus (simp [go_sem,simprocAttr,hb,hu,hw,vf,DI,vP_length,jh,Option.isSome_some];done)));try simp only [List.map_cons,List.map_nil]));try simp only [go_sem,simprocAttr,hb,hu,hw,vf,DI,vP_length,jh,Option.isSome_some])|((with_reducible refine oD ?_ ?_);kernel_rfl)|((with_reducible intro h);try simp only [go_sem,simprocAttr,hb,hu,hw,vf,DI,vP_length,jh,Option.isSome_some] at h)|omega|intro h)
   refine ⟨i+1,by omega, ?_,by omega⟩
   rw [Qc,cn,Fa,Qb]
   refine Le.of ?_ ?_<;>simp [go_sem,simprocAttr,hb,hu,hw,vf,DI,vP_length,jh,Option.isSome_some,DF,rP,sP]
  ·rw [if_neg hin] at vf
   have Fa:Kf g (AN:Int) bs xs ys i= [DF xs ys u,DF xs ys w]:=by
    unfold Kf Gg
    rw [if_neg hin,P9,Qa,Int.toNat_natCast,Int.toNat_natCast]
    rfl
   repeat' (first|(show bV _ (.region 23 _ _) _ _;(refine dJ hX 14 1 110 402 rfl rfl rfl (by first|exact .inl rfl|exact .inr rfl) (by decide) (by decide) ?_;simp only [List.set_cons_zero,List.set_cons_succ,go_sem,simprocAttr,hb,hu,hw,vf,vP_length,jh,Option.isSome_none]))|refine Rn.p ?_|(with_reducible apply And.intro)|((first|(refine hK _ ?_;clear hK K)|with_reducible intro K hK|refine Rs.p ?_|((with_reducible first|apply oP|apply oQ);exact rfl)|(refine bt hX hC hP [(10001,10),(10002,11)] (hc1) rfl rfl rfl ?_ ?_ ?_ ?_ ?_ ?_ rfl rfl ?_ ?_;(focus (simp only [go_sem,simprocAttr,hb,hu,hw,vf,vP_length,jh,Option.isSome_none];done));(iterate 6 (focus (simp [go_sem,simprocAttr,hb,hu,hw,vf,vP_length,jh,Option.isSome_none];done)));try simp only [List.map_cons,List.map_nil])|(refine bt hX hC hP [(10001,10),(10002,11)] (BM) rfl rfl rfl ?_ ?_ ?_ ?_ ?_ ?_ rfl rfl ?_ ?_;(focus (simp only [go_sem,simprocAttr,hb,hu,hw,vf,vP_length,jh,Option.isSome_none];done));(iterate 6 (focus (simp [go_sem,simprocAttr,hb,hu,hw,vf,vP_length,jh,Option.isSome_none];done)));try simp only [List.map_cons,List.map_nil]));try simp only [go_sem,simprocAttr,hb,hu,hw,vf,vP_length,jh,Option.isSome_none])|((with_reducible refine oD ?_ ?_);kernel_rfl)|((with_reducible intro h);try simp only [go_sem,simprocAttr,hb,hu,hw,vf,vP_length,jh,Option.isSome_none] at h)|omega|intro h)
   refine ⟨i+1,by omega, ?_,by omega⟩
   rw [Qc,cn,Fa,Qb]
   refine Le.of ?_ ?_<;>simp [go_sem,simprocAttr,hb,hu,hw,vf,vP_length,jh,Option.isSome_none,DF,rP,sP]
 have hb:decide ((i:Int)<(g.es.length:Int))=false:=decide_eq_false (by omega)
 obtain rfl:i=g.es.length:=by omega
 repeat' (first|refine Rn.p ?_|(with_reducible apply And.intro)|((first|(refine hK _ ?_;clear hK K)|with_reducible intro K hK|refine Rs.p ?_|((with_reducible first|apply oP|apply oQ);exact rfl));try simp only [go_sem,simprocAttr,hb])|((with_reducible refine oD ?_ ?_);kernel_rfl)|((with_reducible intro h);try simp only [go_sem,simprocAttr,hb] at h)|omega|intro h)
end Go.Ab
end
section
namespace Go.Ab
open Go.Proofs
set_option maxRecDepth 10000
set_option linter.unusedSectionVars false
section
variable {g:Gr} {bs:List Int} (hm:aH g=true) (hb:uE g bs)
include hm hb
theorem lX {i:Nat} (hi:i<g.es.length):tl (aD g bs) i=tl g i∧hd (aD g bs) i=if (i:Int)∈bs then qH g bs i else hd g i:=by
 have:=cF (g:=g) (bs:=bs) (e:=(i:Int)) (by omega) (by omega)
 exact this
theorem lZ {k:Nat} (hk:k<bs.length):tl (aD g bs) (g.es.length+k)=g.n+(k:Int)∧hd (aD g bs) (g.es.length+k)=hd g (bs.getD k 0).toNat:=by
 have:=gA (g:=g) (bs:=bs) hk
 exact this
theorem JS {c c':Nat→Bool} (hc:∀i:Nat,i<g.es.length→c i=true→c' i=true∧((i:Int)∈bs→c' (g.es.length+bs.idxOf (i:Int))=true)) {u v:Nat} (h:kQ g false c u v):kQ (aD g bs) false c' u v:=by
 induction h with
 |refl=>exact .refl
 |DT _ _ hf=>cases hf
 | @fwd i hi HP _ ih=>
   obtain ⟨e1,e2⟩:=lX hm hb hi
   obtain ⟨c1,c2⟩:=hc i hi HP
   have s1:=kQ.fwd (g:=aD g bs) (i:=i) (by rw [cl];omega) c1 (by rw [e1];exact ih)
   by_cases hin:(i:Int)∈bs
   ·rw [e2,if_pos hin] at s1
    obtain ⟨k1,k2⟩:=qf hin
    obtain ⟨e3,e4⟩:=lZ hm hb k1
    have s2:=kQ.fwd (g:=aD g bs) (i:=g.es.length+bs.idxOf (i:Int)) (by rw [cl];omega) (c2 hin) (by rw [e3];exact s1)
    rw [e4,k2,Int.toNat_natCast] at s2
    exact s2
   ·rw [e2,if_neg hin] at s1
    exact s1
theorem Gm {c c':Nat→Bool} (h1:∀i:Nat,i<g.es.length→c' i=true→(i:Int)∉bs→c i=true) (h2:∀k:Nat,k<bs.length→c' (g.es.length+k)=true→c (bs.getD k 0).toNat=true) {u w:Nat} (hu:u<g.n.toNat) (h:kQ (aD g bs) false c' u w):kQ g false c u (pE g bs w).toNat:=by
 have hn:=aB hm
 induction h with
 |refl=>
  have:(pE g bs (u:Int)).toNat=u:=by unfold pE;rw [if_pos (by omega)];omega
  rw [this]
  exact .refl
 |DT _ _ hf=>cases hf
 | @fwd i hi HP _ ih=>
   rw [cl] at hi
   rcases Nat.lt_or_ge i g.es.length with hil|J6
   ·obtain ⟨e1,e2⟩:=lX hm hb hil
    have t:=aU hm hil
    have d:=aZ hm hil
    have q1:(pE g bs (((tl (aD g bs) i).toNat:Nat):Int)).toNat=(tl g i).toNat:=by rw [e1];unfold pE;rw [if_pos (by omega)];omega
    rw [q1] at ih
    by_cases hin:(i:Int)∈bs
    ·obtain ⟨n1,n2,n3,n4⟩:=cC hb hin
     rw [e2,if_pos hin,show (((qH g bs (i:Int)).toNat:Nat):Int)=qH g bs (i:Int) by omega,n3]
     exact ih
    ·rw [e2,if_neg hin]
     have q2:(pE g bs (((hd g i).toNat:Nat):Int)).toNat=(hd g i).toNat:=by unfold pE;rw [if_pos (by omega)];omega
     rw [q2]
     exact .fwd hil (h1 i hil HP hin) ih
   ·obtain ⟨k,rfl⟩:∃k,i=g.es.length+k:=⟨i - g.es.length,by omega⟩
    have hk:k<bs.length:=by omega
    obtain ⟨e1,e2⟩:=lZ hm hb hk
    have hr:=hb.oK _ (aL (d:=0) hk)
    have hil:(bs.getD k 0).toNat<g.es.length:=by omega
    have t:=aU hm hil
    have d:=aZ hm hil
    have q1:(pE g bs (((tl (aD g bs) (g.es.length+k)).toNat:Nat):Int)).toNat=(tl g (bs.getD k 0).toNat).toNat:=by
     rw [e1];unfold pE;rw [if_neg (by omega),show ((((g.n+(k:Int)).toNat:Nat):Int) - g.n).toNat=k by omega];rfl
    rw [q1] at ih
    have q2:(pE g bs (((hd g (bs.getD k 0).toNat).toNat:Nat):Int)).toNat=(hd g (bs.getD k 0).toNat).toNat:=by unfold pE;rw [if_pos (by omega)];omega
    rw [e2,q2]
    exact .fwd hil (h2 k hk HP) ih
theorem DJ {u v:Nat} (hu:u<g.n.toNat) (hv:v<g.n.toNat):kQ (aD g bs) false (fun _=>true) u v↔kQ g false (fun _=>true) u v:=by
 constructor
 ·intro h
  have:=Gm hm hb (c:=fun _=>true) (fun _ _ _ _=>rfl) (fun _ _ _=>rfl) hu h
  rw [show (pE g bs (v:Int)).toNat=v by unfold pE;rw [if_pos (by omega)];omega] at this
  exact this
 ·exact JS hm hb fun _ _ _=>⟨rfl,fun _=>rfl⟩
theorem Cn {i:Nat} (hi:i<g.es.length):Bb g i=true↔kQ g false (o7 i) (tl g i).toNat (hd g i).toNat:=by
 have t:=aU hm hi
 have d:=aZ hm hi
 unfold Bb
 rw [qi (by omega),rX]
 exact ⟨fun h=>h.2,fun h=>⟨by omega,h⟩⟩
end
theorem uR {i k:Nat} :o7 i k=true↔k≠i:=by
 unfold o7
 rw [Bool.not_eq_true',decide_eq_false_iff_not]
 omega
theorem Co {g:Gr} (hm:aH g=true) {i:Int} :i∈cM g↔∃k:Nat,k<g.es.length∧Bb g k=true∧i=(k:Int):=by
 unfold cM
 rw [if_pos hm]
 simp only [zR,List.mem_map,List.mem_filter,List.mem_range]
 constructor
 ·rintro ⟨j,⟨h1,h2⟩,rfl⟩;exact ⟨j,h1,h2,rfl⟩
 ·rintro ⟨j,h1,h2,rfl⟩;exact ⟨j,⟨h1,h2⟩,rfl⟩
theorem H8 {g:Gr} :uE g (cM g):=by
 unfold cM
 split
 ·refine ⟨?_,fun i hi=> ?_⟩
  ·unfold zR
   exact List.Pairwise.map _ (fun a b hab=>by omega) (List.nodup_range.filter _)
  ·simp only [zR,List.mem_map,List.mem_filter,List.mem_range] at hi
   obtain ⟨j,⟨h1,_⟩,rfl⟩:=hi
   omega
 ·exact ⟨List.nodup_nil,by simp⟩
theorem Gn {g:Gr} (hm:aH g=true) (H9:aH (aD g (cM g))=true):cM (aD g (cM g))= []:=by
 have hn:=aB hm
 have hb:=H8 (g:=g)
 refine List.eq_nil_iff_forall_not_mem.2 fun e he=> ?_
 obtain ⟨i,hi,ht,rfl⟩:=(Co H9).1 he
 have Sq:uE (aD g (cM g)) []:=⟨List.nodup_nil,by simp⟩
 rw [Cn H9 Sq hi] at ht
 rw [cl] at hi
 rcases Nat.lt_or_ge i g.es.length with hil|J6
 ·obtain ⟨e1,e2⟩:=lX hm hb hil
  have t:=aU hm hil
  have d:=aZ hm hil
  by_cases hin:(i:Int)∈cM g
  ·obtain ⟨n1,n2,n3,n4⟩:=cC hb hin
   rw [e2,if_pos hin,e1] at ht
   generalize hw:(qH g (cM g) (i:Int)).toNat=w at ht
   cases ht with
   |refl=>omega
   |DT _ _ hf=>cases hf
   | @fwd j hj OW _=>
     have hji:=uR.1 OW
     rw [cl] at hj
     rcases Nat.lt_or_ge j g.es.length with hjl|ME
     ·have dj:=aZ hm hjl
      have f2:=(lX hm hb hjl).2
      by_cases hjn:(j:Int)∈cM g
      ·obtain ⟨m1,m2,m3,m4⟩:=cC hb hjn
       rw [f2,if_pos hjn] at hw
       have:qH g (cM g) (i:Int)=qH g (cM g) (j:Int):=by omega
       rw [this,m4] at n4
       omega
      ·rw [f2,if_neg hjn] at hw
       omega
     ·obtain ⟨k,rfl⟩:∃k,j=g.es.length+k:=⟨j - g.es.length,by omega⟩
      have hk:k<(cM g).length:=by omega
      have f2:=(lZ hm hb hk).2
      have hr:=hb.oK _ (aL (d:=0) hk)
      have dj:=aZ hm (i:=((cM g).getD k 0).toNat) (by omega)
      rw [f2] at hw
      omega
  ·refine hin ((Co hm).2 ⟨i,hil,(Cn hm hb hil).2 ?_,rfl⟩)
   rw [e1,e2,if_neg hin] at ht
   have:=Gm hm hb (c:=o7 i) (fun j _ hj _=>hj) (fun k hk _=>uR.2 fun e=>hin ?_) (by omega) ht
   ·rw [show (pE g (cM g) (((hd g i).toNat:Nat):Int)).toNat=(hd g i).toNat by unfold pE;rw [if_pos (by omega)];omega] at this
    exact this
   ·have hr:=hb.oK _ (aL (d:=0) hk)
    have:=aL (d:=0) hk
    rw [show (cM g).getD k 0=(i:Int) by omega] at this
    exact this
 ·obtain ⟨k,rfl⟩:∃k,i=g.es.length+k:=⟨i - g.es.length,by omega⟩
  have hk:k<(cM g).length:=by omega
  obtain ⟨e1,e2⟩:=lZ hm hb hk
  have hr:=hb.oK _ (aL (d:=0) hk)
  have d:=aZ hm (i:=((cM g).getD k 0).toNat) (by omega)
  rw [e1,e2] at ht
  have key:∀w,kQ (aD g (cM g)) false (o7 (g.es.length+k)) (g.n+(k:Int)).toNat w→w=(g.n+(k:Int)).toNat:=fun w hw=>by
   induction hw with
   |refl=>rfl
   |DT _ _ hf=>cases hf
   | @fwd j hj OW _ ih=>
     exfalso
     have hji:=uR.1 OW
     rw [cl] at hj
     rcases Nat.lt_or_ge j g.es.length with hjl|ME
     ·have tj:=aU hm hjl
      rw [(lX hm hb hjl).1] at ih
      omega
     ·obtain ⟨k',rfl⟩:∃k',j=g.es.length+k':=⟨j - g.es.length,by omega⟩
      rw [(lZ hm hb (by omega)).1] at ih
      omega
  have:=key _ ht
  omega
end Go.Ab
end
section
namespace Go.Ab
open Go.Proofs
attribute [local congr] ACall.congr gd.congr Nx.congr
set_option maxRecDepth 20000
set_option maxHeartbeats 8000000
theorem zX (d:Dr) (h1:d.pts.length≤9223372036854775807) (h2:d.ls.length≤9223372036854775807) (h3:∀l∈d.ls,l.length≤9223372036854775807):Spec Tryz.prog 35 (Args [eDr d,eDr d]) [] (eB true) []:=by
 (refine Spec.hd (C:=T.cfg [] []) (rs:= [.t 4]) (T.ah _ _) Tryz.func35 rfl rfl Tryz.ntmps35 Tryz.results35 (by simp [AObj.isNest]) (by simp [AObj.isNest]) (by kernel_rfl) T.mixed fun X hX hP hC aJ bQ=> ?_)
 repeat' (first|refine Rn.p ?_|(with_reducible apply And.intro)|((first|(refine hK _ ?_;clear hK K)|with_reducible intro K hK|refine Rs.p ?_|((with_reducible first|apply oP|apply oQ);exact rfl));try simp only [go_sem,simprocAttr,decide_true])|((with_reducible refine oD ?_ ?_);kernel_rfl)|((with_reducible intro h);try simp only [go_sem,simprocAttr,decide_true] at h)|omega|intro h)
 refine ai (fun k:Nat=>k≤d.pts.length) (fun k=>⟨[(2, .ptr 2 0),(3, .ptr 3 0),(4,eB false),(5,eN k)], [(2, .box [.d (sP d.pts), .d (sLn d.ls)]),(3, .box [.d (sP d.pts), .d (sLn d.ls)])]⟩) (fun k=>d.pts.length - k) 0 (by omega) ?_ ?_
 ·refine Le.of ?_ ?_<;>simp [go_sem,simprocAttr,decide_true]
 rintro k hk
 rcases Nat.lt_or_ge k d.pts.length with hlt|hge
 ·have hb:decide ((k:Int)<(d.pts.length:Int))=true:=decide_eq_true (by omega)
  repeat' (first|refine Rn.p ?_|(with_reducible apply And.intro)|((first|(refine hK _ ?_;clear hK K)|with_reducible intro K hK|refine Rs.p ?_|((with_reducible first|apply oP|apply oQ);exact rfl));try simp only [go_sem,simprocAttr,decide_true,hb])|((with_reducible refine oD ?_ ?_);kernel_rfl)|((with_reducible intro h);try simp only [go_sem,simprocAttr,decide_true,hb] at h)|omega|intro h)
  refine ⟨k+1,by omega, ?_,by omega⟩
  refine Le.of ?_ ?_<;>simp [go_sem,simprocAttr,decide_true,hb]
 have hb:decide ((k:Int)<(d.pts.length:Int))=false:=decide_eq_false (by omega)
 repeat' (first|refine Rn.p ?_|(with_reducible apply And.intro)|((first|(refine hK _ ?_;clear hK K)|with_reducible intro K hK|refine Rs.p ?_|((with_reducible first|apply oP|apply oQ);exact rfl));try simp only [go_sem,simprocAttr,decide_true,hb])|((with_reducible refine oD ?_ ?_);kernel_rfl)|((with_reducible intro h);try simp only [go_sem,simprocAttr,decide_true,hb] at h)|omega|intro h)
 refine ai (fun i:Nat=>i≤d.ls.length) (fun i=>⟨[(2, .ptr 2 0),(3, .ptr 3 0),(4,eB false),(6,eN i)], [(2, .box [.d (sP d.pts), .d (sLn d.ls)]),(3, .box [.d (sP d.pts), .d (sLn d.ls)])]⟩) (fun i=>d.ls.length - i) 0 (by omega) ?_ ?_
 ·refine Le.of ?_ ?_<;>simp [go_sem,simprocAttr,decide_true,hb]
 rintro i hi
 rcases Nat.lt_or_ge i d.ls.length with hil|J6
 ·have hb2:decide ((i:Int)<(d.ls.length:Int))=true:=decide_eq_true (by omega)
  have Pz:=vP_getD d.ls i
  have Sr:=h3 _ (aL (d:= []) hil)
  generalize hl:d.ls.getD i []=l at Pz Sr
  repeat' (first|refine Rn.p ?_|(with_reducible apply And.intro)|((first|(refine hK _ ?_;clear hK K)|with_reducible intro K hK|refine Rs.p ?_|((with_reducible first|apply oP|apply oQ);exact rfl));try simp only [go_sem,simprocAttr,decide_true,hb2,hl,vP_length])|((with_reducible refine oD ?_ ?_);kernel_rfl)|((with_reducible intro h);try simp only [go_sem,simprocAttr,decide_true,hb2,hl,vP_length] at h)|omega|intro h)
  refine ai (fun j:Nat=>j≤l.length) (fun j=>⟨[(2, .ptr 2 0),(3, .ptr 3 0),(4,eB false),(6,eN i),(7,eN j)], [(2, .box [.d (sP d.pts), .d (sLn d.ls)]),(3, .box [.d (sP d.pts), .d (sLn d.ls)])]⟩) (fun j=>l.length - j) 0 (by omega) ?_ ?_
  ·refine Le.of ?_ ?_<;>simp [go_sem,simprocAttr,decide_true,hb2,hl,vP_length]
  rintro j hj
  rcases Nat.lt_or_ge j l.length with hjl|ME
  ·have hb3:decide ((j:Int)<(l.length:Int))=true:=decide_eq_true (by omega)
   repeat' (first|refine Rn.p ?_|(with_reducible apply And.intro)|((first|(refine hK _ ?_;clear hK K)|with_reducible intro K hK|refine Rs.p ?_|((with_reducible first|apply oP|apply oQ);exact rfl));try simp only [go_sem,simprocAttr,decide_true,hb2,hl,vP_length,hb3])|((with_reducible refine oD ?_ ?_);kernel_rfl)|((with_reducible intro h);try simp only [go_sem,simprocAttr,decide_true,hb2,hl,vP_length,hb3] at h)|omega|intro h)
   refine ⟨j+1,by omega, ?_,by omega⟩
   refine Le.of ?_ ?_<;>simp [go_sem,simprocAttr,decide_true,hb2,hl,vP_length,hb3]
  have hb3:decide ((j:Int)<(l.length:Int))=false:=decide_eq_false (by omega)
  repeat' (first|refine Rn.p ?_|(with_reducible apply And.intro)|((first|(refine hK _ ?_;clear hK K)|with_reducible intro K hK|refine Rs.p ?_|((with_reducible first|apply oP|apply oQ);exact rfl));try simp only [go_sem,simprocAttr,decide_true,hb2,hl,vP_length,hb3])|((with_reducible refine oD ?_ ?_);kernel_rfl)|((with_reducible intro h);try simp only [go_sem,simprocAttr,decide_true,hb2,hl,vP_length,hb3] at h)|omega|intro h)
  refine ⟨i+1,by omega, ?_,by omega⟩
  refine Le.of ?_ ?_<;>simp [go_sem,simprocAttr,decide_true,hb2,hl,vP_length,hb3]
 have hb2:decide ((i:Int)<(d.ls.length:Int))=false:=decide_eq_false (by omega)
 repeat' (first|refine Rn.p ?_|(with_reducible apply And.intro)|((first|(refine hK _ ?_;clear hK K)|with_reducible intro K hK|refine Rs.p ?_|((with_reducible first|apply oP|apply oQ);exact rfl));try simp only [go_sem,simprocAttr,decide_true,hb2])|((with_reducible refine oD ?_ ?_);kernel_rfl)|((with_reducible intro h);try simp only [go_sem,simprocAttr,decide_true,hb2] at h)|omega|intro h)
def zY:Gr:=⟨3, [(0,1),(1,2),(0,2)]⟩
def GF:Pl:=⟨[0,1,2], [[0,2], [1], []]⟩
def d21:Dr:=⟨[(0,0),(1,2),(3,3)], [[(0,0),(1,2)], [(1,2),(3,3)], [(0,0),(2,1),(3,3)]]⟩
theorem Jb:(true=true)↔(bN zY).1=0∧bk zY GF:=⟨fun _=>⟨by decide,⟨rfl,by decide,by decide⟩⟩,fun _=>rfl⟩
theorem OX:cM zY= [2]:=by
 have hm:aH zY=true:=by decide
 have h0:Bb zY 0=false:=by rw [← uP hm (by decide)];decide
 have h1:Bb zY 1=false:=by rw [← uP hm (by decide)];decide
 have h2:Bb zY 2=true:=by rw [← uP hm (by decide)];decide
 unfold cM
 rw [if_pos hm]
 show zR zY 3= [2]
 rw [o8,if_pos h2,o8,if_neg (by rw [h1];decide),o8,if_neg (by rw [h0];decide)]
 rfl
theorem OY:HY true zY GF=(d21,0):=by
 have a1:mJ true zY GF=(zY,GF,0):=rfl
 have a2:aq zY GF=zY:=rfl
 have a3:bG zY GF=GF:=rfl
 unfold HY DG
 rw [a1,a2,a3,OX,if_neg (by simp),if_neg (by decide)]
 rfl
end Go.Ab
end
section
namespace Go.Ab
open Go.Proofs
set_option maxRecDepth 10000
set_option linter.unusedSectionVars false
def ky (t:It):Bool × Int × Int:=(decide (0≤t.1),t.2)
structure Alike (G G':Gr) (P P':Pl):Prop where
 n:G'.n=G.n
 need:∀x,bf G' x=bf G x
 out:∀x,(b8 P' x).map (dY G')=(b8 P x).map (dY G)
 o1:∀x,∀e∈b8 P x,0≤e
 o2:∀x,∀e∈b8 P' x,0≤e
structure Tl (f f':Fr):Prop where
 row:f'.row.map ky=f.row.map ky
 pl:f'.pl=f.pl
section
variable {G G':Gr} {P P':Pl} (hA:Alike G G' P P')
include hA
end
section
variable {G G':Gr} {P P':Pl} (hA:Alike G G' P P') (hm:aH G=true) (hm':aH G'=true)
include hA hm hm'
end
section
variable {G G':Gr} {P P':Pl} (hA:Alike G G' P P') (h:aY G P) (h':aY G' P')
include hA h h'
end
end Go.Ab
end
section
namespace Go.Ab
open Go.Proofs
set_option maxRecDepth 10000
set_option linter.unusedSectionVars false
section
variable {g:Gr} {p:Pl} (h:mS g p)
include h
end
end Go.Ab
end
section
namespace Go.Ab
open Go.Proofs
attribute [local congr] ACall.congr gd.congr Nx.congr
set_option maxRecDepth 10000
set_option maxHeartbeats 8000000
def Tm (rev:Bool) (row:List It) (i:Nat):Int:=((jl rev row).getD i (0,0,0)).2.2
def Qd (g:Gr) (f:Fr) (rev:Bool):Int:=match (jl rev f.row).find? (fun t=>az g f t.2.2) with
 |some t=>t.2.2
 |none=>match (List.range g.n.toNat).find? (fun x:Nat=>az g f (x:Int)) with
  |some x=>(x:Int)
  |none=> -1
end Go.Ab
end
section
namespace Go.Ab
open Go.Proofs
attribute [local congr] ACall.congr gd.congr Nx.congr
set_option maxRecDepth 20000
set_option maxHeartbeats 16000000
end Go.Ab
end
section
namespace Go.Ab
set_option maxRecDepth 10000
set_option linter.unusedSectionVars false
variable {P:PS}
structure PS.Hi (P:PS) (R:Int→Int) (f0 f1:Int) (hi:Int→Int):Prop where
 mid:∀ {x u a b v},P.ins x=u++a::b::v→hi (R a)=x
 h0:hi f0=P.LB
 h1:hi f1=P.LB
def PS.Tn (P:PS) (a:Int):Prop:=∃x u b v,P.outs x=u++a::b::v
section
variable (h:P.Ok) {L R:Int→Int} {f0 f1:Int} {low:Int→Int} (F:P.ji L R f0 f1 low)
include h F
theorem PS.Hi.DN {hi:Int→Int} (H:P.Hi R f0 f1 hi):P.DN.Hi L f1 f0 hi:=
 {mid:=fun {x u a b v} e=>by
   have e:=iq (show (P.ins x).reverse=_ from e)
   rw [← F.AH e];exact H.mid e
  h0:=H.h1
  h1:=H.h0}
variable {L' R':Int→Int} {Ss St:Int} {low':Int→Int} (F':P.ji L' R' Ss St low')
include F'
end
section
variable (h:P.Ok) {L R:Int→Int} {f0 f1:Int} {low:Int→Int} (F:P.ji L R f0 f1 low)
include h F
variable {hi:Int→Int} (H:P.Hi R f0 f1 hi)
include H
end
def OZ (t h:Int→Int) (l:List Int) (x:Int):Int:=match l.find? (fun i=>decide (t i=x)) with
 |some i=>h i
 |none=>x
def O0 (t h:Int→Int) (l:List Int) (x:Int):Nat→Int
 |0=>x
 |k+1=>OZ t h l (O0 t h l x k)
section
variable (h:P.Ok) {L R:Int→Int} {f0 f1:Int} {low:Int→Int} (F:P.ji L R f0 f1 low) {hi:Int→Int} (H:P.Hi R f0 f1 hi)
include h F H
end
end Go.Ab
end
section
namespace Go.Ab
open Go.Proofs
set_option maxRecDepth 10000
set_option linter.unusedSectionVars false
section
variable (g:Gr) (p:Pl)
def cK:Nat→Nat
 |0=>1
 |k+1=>cK k+((b8 p (aG p k)).length - 1)
def MW (e:Int):Nat:=(b8 p (ew g e)).findIdx (fun i=>decide (i=e))
def zZ (x:Int):Int:=(mK g p x).headD 0
def Mh (x:Int):Int:=(mK g p x).getLastD 0
def LK:Nat→Int→Int
 |0,_=>0
 |k+1,e=>if ew g e=aG p k then (if MW g p e=0 then (if k=0 then 0 else LK k (zZ g p (aG p k))) else (cK p k:Int)+MW g p e - 1) else LK k e
def RK (r:Int):Nat→Int→Int
 |0,_=>0
 |k+1,e=>if ew g e=aG p k then (if MW g p e+1<(b8 p (aG p k)).length then (cK p k:Int)+MW g p e else (if k=0 then r else RK r k (Mh g p (aG p k)))) else RK r k e
def JT:Nat→List Int
 |0=> [aG p 0]
 |k+1=>JT k++List.replicate ((b8 p (aG p k)).length - 1) (aG p k)
end
section
variable {g:Gr} {p:Pl}
variable (h:aY g p)
include h
def WK (g:Gr) (p:Pl) (k:Nat):List Int:=(fA (fK g p k).row).map (·.1)
end
end Go.Ab
end
section
namespace Go.Ab
open Go.Proofs
attribute [local congr] ACall.congr gd.congr Nx.congr
set_option maxRecDepth 10000
set_option maxHeartbeats 8000000
def Cp (A o:List Int) (f:Nat→Int):Nat→List Int
 |0=>A
 |j+1=>(Cp A o f j).set (o.getD j 0).toNat (f j)
def Qe (A o:List Int) (left:Int) (c:Nat) (j:Nat):List Int:=Cp A o (fun j=>if j=0 then left else (c:Int)+j - 1) j
def Qf (A o:List Int) (right:Int) (c:Nat) (j:Nat):List Int:=Cp A o (fun j=>if j+1<o.length then (c:Int)+j else right) j
def IC (c k:Nat):List Int:=(List.range k).map fun i:Nat=>((c+i:Nat):Int)
def To (left:Int) (c d j:Nat):Int:=if min j (d - 1)=0 then left else (c:Int)+(min j (d - 1):Nat) - 1
def Tp (ed gp:D) (A B lo hi:List Int):List (Nat × AObj):= [(10000, .box [.d ed, .d gp, .ref 10001, .ref 10002, .ref 10003, .ref 10004]),(10001, .own 3 1 (A.map rI)),(10002, .own 3 1 (B.map rI)),(10003, .tip 3 1 (lo.map rI)),(10004, .own 3 1 (hi.map rI))]
def Tq (ed gp:D) (A B lo hi:List Int):List (Nat × AObj):= [(10000, .box [.d ed, .d gp, .ref 10001, .ref 10002, .ref 10005, .ref 10006]),(10001, .own 3 1 (A.map rI)),(10002, .own 3 1 (B.map rI)),(10005, .tip 3 1 (lo.map rI)),(10006, .own 3 1 (hi.map rI))]
end Go.Ab
end
section
namespace Go.Ab
open Go.Proofs
attribute [local congr] ACall.congr gd.congr Nx.congr
set_option maxRecDepth 10000
set_option maxHeartbeats 8000000
def Mi (A fs:List Int) (x:Int) (j:Nat):List Int:=Cp A fs (fun _=>x) j
end Go.Ab
end
section
namespace Go.Ab
open Go.Proofs
set_option maxRecDepth 10000
set_option linter.unusedSectionVars false
def arr (f:Int→Int) (m:Nat):List Int:=(List.range m).map fun i:Nat=>f (i:Int)
section
variable {g:Gr} {p:Pl} (h:aY g p)
include h
end
section
variable (g:Gr) (p:Pl)
def Bj:Nat→List Int
 |0=>b8 p (aG p 0)
 |j+1=>if b8 p (aG p (j+1))= [] then Bj j else (Bj j).take (fu (Bj j) (zZ g p (aG p (j+1)))).toNat++b8 p (aG p (j+1))++(Bj j).drop ((fu (Bj j) (zZ g p (aG p (j+1)))).toNat+(mK g p (aG p (j+1))).length)
def Mj:Nat→List Int
 |0=> [0]++IC 1 ((b8 p (aG p 0)).length - 1)++ [-1]
 |j+1=>(Mj j).take ((fu (Bj g p j) (zZ g p (aG p (j+1)))).toNat+1)++IC (cK p (j+1)) ((b8 p (aG p (j+1))).length - 1)++(Mj j).drop ((fu (Bj g p j) (zZ g p (aG p (j+1)))).toNat+(mK g p (aG p (j+1))).length)
def Mk (k:Nat):List Int:=((mK g p (aG p k)).dropLast).map (RK g p (-1) k)
def O2:Nat→List Int
 |0=> [aG p (g.n.toNat - 1)]
 |k+1=>Mi (O2 k) (Mk g p k) (aG p k) (Mk g p k).length++List.replicate ((b8 p (aG p k)).length - 1) 0
end
section
variable {g:Gr} {p:Pl}
variable (h:aY g p)
include h
end
end Go.Ab
end
section
namespace Go.Ab
open Go.Proofs
attribute [local congr] ACall.congr gd.congr Nx.congr
set_option maxRecDepth 60000
set_option maxHeartbeats 8000000
structure Fc where
 L:List Int
 R:List Int
 lo:List Int
 hi:List Int
def O3 (g:Gr) (p:Pl) (f:Int):Int:=if f= -1 then (cK p g.n.toNat:Int) else f
def Su (g:Gr) (p:Pl):Fc:=⟨arr (LK g p g.n.toNat) g.es.length,(arr (RK g p (-1) g.n.toNat) g.es.length).map (O3 g p),JT p g.n.toNat++ [aG p 0],O2 g p g.n.toNat++ [aG p (g.n.toNat - 1)]⟩
def Sv:Fc:=⟨[], [], [], []⟩
def Tr (b:Bool) (g:Gr) (p:Pl):Fc × Int:=if ((bP b g p).2.1=0∧nI g=true)∧0<g.es.length then (Su g p,0) else (Sv,1)
def Ts (f:Fc):AV:= .agg [.d (sI f.L), .d (sI f.R), .d (sI f.lo), .d (sI f.hi)]
def Sw (l:List Int) (f:Int→Int) (j:Nat):List Int:=(l.take j).map f++l.drop j
end Go.Ab
end
section
namespace Go.Ab
open Go.Proofs
set_option maxRecDepth 10000
set_option linter.unusedSectionVars false
section
variable (g:Gr) (p:Pl)
def cN:Nat:=cK p g.n.toNat
def Lf (e:Int):Int:=LK g p g.n.toNat e
def Rf (e:Int):Int:=RK g p (cN g p) g.n.toNat e
def Sx:List Int:=JT p g.n.toNat++ [aG p 0]
def Sy:List Int:=O2 g p g.n.toNat++ [aG p (g.n.toNat - 1)]
def Tt (f:Int):Int:=(Sx g p).getD f.toNat 0
def Tu (f:Int):Int:=(Sy g p).getD f.toNat 0
end
section
variable {g:Gr} {p:Pl}
variable (h:aY g p) (hI:nI g=true)
include h hI
end
end Go.Ab
end
section
namespace Go.Ab
open Go.Proofs
set_option maxRecDepth 10000
set_option linter.unusedSectionVars false
def Bk (s:Nat) (x:Int):Bool:=decide (0≤x)&&decide (x<64)&&s.testBit x.toNat
theorem x6 {G:Gr} (hm:aH G=true):(A9 G).length=G.n.toNat:=by
 unfold A9;rw [if_pos hm];exact o5
theorem Gp {G:Gr} (hm:aH G=true) {x:Nat} :(A9 G).getD x 0<18446744073709551616:=by
 have hn:=aB hm
 by_cases hx:x<G.n.toNat
 ·unfold A9
  rw [if_pos hm,qi hx]
  have:L7 G false (fun _=>true) x<2 ^ G.n.toNat:=Ca
  exact Nat.lt_of_lt_of_le this (Nat.pow_le_pow_right (by decide) (show G.n.toNat≤64 by omega))
 ·rw [List.getD_eq_getElem?_getD,List.getElem?_eq_none (by rw [x6 hm];omega)];decide
section
variable {P:PS} (h:P.Ok) {L R:Int→Int} {f0 f1:Int} {low:Int→Int} (F:P.ji L R f0 f1 low)
def Sz (P:PS) (R:Int→Int) (f:Int):Nat→Nat
 |0=>0
 |j+1=>if R (P.sh j)=f then j+1 else Sz P R f j
include h F
end
section
variable (g:Gr) (p:Pl)
def Tv:Gr:=⟨(cN g p:Int)+1,(List.range g.es.length).map fun i:Nat=>(Lf g p i,Rf g p i)⟩
end
section
variable {g:Gr} {p:Pl}
variable (h:aY g p) (hI:nI g=true)
include h hI
end
end Go.Ab
end
section
namespace Go.Ab
open Go.Proofs
attribute [local congr] ACall.congr gd.congr Nx.congr
set_option maxRecDepth 20000
set_option maxHeartbeats 8000000
end Go.Ab
end
section
namespace Go.Ab
open Go.Proofs
attribute [local congr] ACall.congr gd.congr Nx.congr
set_option maxRecDepth 20000
set_option maxHeartbeats 8000000
def Tw (f:Fc) (k:Nat):List Edge:=(List.range k).map fun i:Nat=>(f.L.getD i 0,f.R.getD i 0)
def SA (b:Bool) (g:Gr) (p:Pl):Bool:= !um g p&&nI g&&decide ((bP b g p).2.1=0)&&decide (0<(g.es.length:Int))&&decide ((g.es.length:Int)≤60)
def Tx:Gr:=⟨4, [(0,1),(1,3),(0,2),(2,3)]⟩
def Ty:Pl:=⟨[0,1,2,3], [[0,2], [1], [3], []]⟩
end Go.Ab
end
section
namespace Go.Ab
open Go.Proofs
attribute [local congr] ACall.congr gd.congr Nx.congr
set_option maxRecDepth 20000
set_option maxHeartbeats 8000000
theorem jx:Spec Tryz.prog 32 (Args []) [] (eB true) []:=by
 have O4:=DH zY (by decide) GF ⟨by decide,by decide,by decide⟩ (by decide) (by decide) (by decide) true Jb
 rw [OY] at O4
 simp only at O4
 have SB:=zX d21 (by decide) (by decide) (by decide)
 have e1:zY.es.map rE= [[.sc (.int .i64 0), .sc (.int .i64 1)], [.sc (.int .i64 1), .sc (.int .i64 2)], [.sc (.int .i64 0), .sc (.int .i64 2)]]:=rfl
 have e2:GF.ord.map rI= [[.sc (.int .i64 0)], [.sc (.int .i64 1)], [.sc (.int .i64 2)]]:=rfl
 have e3:vI GF.outs= [[.sl 1 [[.sc (.int .i64 0)], [.sc (.int .i64 2)]]], [.sl 1 [[.sc (.int .i64 1)]]], [.sl 1 []]]:=rfl
 have e4:zY.n=3:=rfl
 have e5:d21.pts.map rP= [[.sc (.int .i64 0), .sc (.int .i64 0)], [.sc (.int .i64 1), .sc (.int .i64 2)], [.sc (.int .i64 3), .sc (.int .i64 3)]]:=rfl
 have e6:vP d21.ls= [[.sl 2 [[.sc (.int .i64 0), .sc (.int .i64 0)], [.sc (.int .i64 1), .sc (.int .i64 2)]]], [.sl 2 [[.sc (.int .i64 1), .sc (.int .i64 2)], [.sc (.int .i64 3), .sc (.int .i64 3)]]], [.sl 2 [[.sc (.int .i64 0), .sc (.int .i64 0)], [.sc (.int .i64 2), .sc (.int .i64 1)], [.sc (.int .i64 3), .sc (.int .i64 3)]]]]:=rfl
 (refine Spec.hd (C:=T.cfg [] []) (rs:= [.t 0]) (T.ah _ _) Tryz.func32 rfl rfl Tryz.ntmps32 Tryz.results32 (by simp [AObj.isNest]) (by simp [AObj.isNest]) (by kernel_rfl) T.mixed fun X hX hP hC aJ bQ=> ?_)
 repeat' (first|refine Rn.p ?_|(with_reducible apply And.intro)|((first|(refine hK _ ?_;clear hK K)|with_reducible intro K hK|refine Rs.p ?_|((with_reducible first|apply oP|apply oQ);exact rfl)|(refine cz hX hC hP (O4) rfl rfl rfl ?_ ?_ rfl ?_;iterate 2 (focus (simp only [go_sem,simprocAttr,e1,e2,e3,e4,e5,e6,List.map_cons,List.map_nil,rI,decide_true];done)))|(refine cz hX hC hP (SB) rfl rfl rfl ?_ ?_ rfl ?_;iterate 2 (focus (simp only [go_sem,simprocAttr,e1,e2,e3,e4,e5,e6,List.map_cons,List.map_nil,rI,decide_true];done))));try simp only [go_sem,simprocAttr,e1,e2,e3,e4,e5,e6,List.map_cons,List.map_nil,rI,decide_true])|((with_reducible refine oD ?_ ?_);kernel_rfl)|((with_reducible intro h);try simp only [go_sem,simprocAttr,e1,e2,e3,e4,e5,e6,List.map_cons,List.map_nil,rI,decide_true] at h)|omega|intro h)
end Go.Ab
end
section
namespace Go.Ab
set_option maxRecDepth 10000
set_option linter.unusedSectionVars false
variable {P:PS}
section
variable (h:P.Ok)
include h
end
def PS.Tz (P:PS) (a b:Int):Prop:=∃j,j≤P.m∧a∈(P.st j).D∧b∉(P.st j).D
def PS.TA (P:PS) (L R:Int→Int) (a b:Int):Prop:=∃u e f v,P.outs a=u++ [e]∧P.outs b=f::v∧P.Lp L R (R e) (L f)
section
variable (h:P.Ok) {L R:Int→Int} {f0 f1:Int} {low:Int→Int} (F:P.ji L R f0 f1 low)
include h F
end
end Go.Ab
end
section
namespace Go.Ab
open Go.Proofs
set_option maxRecDepth 10000
set_option linter.unusedSectionVars false
section
variable {g:Gr} {p:Pl} (h:aY g p)
include h
variable (hI:nI g=true)
include hI
end
end Go.Ab
end
section
namespace Go.Ab
open Go.Proofs
set_option maxRecDepth 10000
end Go.Ab
end
section
namespace Go.Ab
open Go.Proofs
set_option maxRecDepth 10000
set_option linter.unusedSectionVars false
def TB (g:Gr) (p:Pl) (rev:Bool) (v:Int):Int:=(fS g p rev g.n.toNat).getD v.toNat 0
section
variable {g:Gr} {p:Pl} (h:aY g p)
include h
variable (hI:nI g=true)
include hI
end
end Go.Ab
end
section
namespace Go.Ab
open Go.Proofs
attribute [local congr] ACall.congr gd.congr Nx.congr
set_option maxRecDepth 10000
set_option maxHeartbeats 8000000
def Qg (x y:List Int) (i:Int):Bool:=decide (0≤i)&&decide (i<min (x.length:Int) (y.length:Int))
def SC (x y:List Int) (a b:Int):Bool:=Qg x y a&&Qg x y b&&decide (x.getD a.toNat 0≤x.getD b.toNat 0)&&decide (y.getD a.toNat 0≤y.getD b.toNat 0)
def TC:Gr:=⟨4, [(0,1),(1,3),(0,2),(2,3)]⟩
def TD:Pl:=⟨[0,1,2,3], [[0,2], [1], [3], []]⟩
end Go.Ab
end
section
namespace Go.Ab
open Go.Proofs
attribute [local congr] ACall.congr gd.congr Nx.congr
set_option maxRecDepth 20000
set_option maxHeartbeats 16000000
end Go.Ab
end
section
namespace Go.Ab
open Go.Proofs
attribute [local congr] ACall.congr gd.congr Nx.congr
set_option maxRecDepth 20000
set_option maxHeartbeats 8000000
theorem Gq {g:Gr} (hm:aH g=true) {u v:Nat} (hu:u<g.n.toNat):Bk ((A9 g).getD u 0) (v:Int)=true↔v<g.n.toNat∧kQ g false (fun _=>true) u v:=by
 have hn:=aB hm
 unfold Bk A9
 rw [if_pos hm,qi hu,Bool.and_eq_true,Bool.and_eq_true,decide_eq_true_eq,decide_eq_true_eq,Int.toNat_natCast,rX]
 constructor
 ·rintro ⟨_,h1,h2⟩;exact ⟨h1,h2⟩
 ·rintro ⟨h1,h2⟩;exact ⟨⟨by omega,by omega⟩,h1,h2⟩
theorem Ia {g:Gr} {bs:List Int} (hm:aH g=true) (hb:uE g bs) (H9:aH (aD g bs)=true) {u v:Nat} (hu:u<g.n.toNat) (hv:v<g.n.toNat):Bk ((A9 (aD g bs)).getD u 0) (v:Int)=Bk ((A9 g).getD u 0) (v:Int):=by
 have hn:=aB hm
 have hN:(aD g bs).n.toNat=g.n.toNat+bs.length:=by show (g.n+(bs.length:Int)).toNat=_;omega
 rw [Bool.eq_iff_iff,Gq hm hu,Gq H9 (by omega),DJ hm hb hu hv]
 constructor
 ·rintro ⟨_,h⟩;exact ⟨hv,h⟩
 ·rintro ⟨_,h⟩;exact ⟨by omega,h⟩
theorem qn (g:Gr) (p:Pl) (hl:g.es.length≤9223372036854775807) (hp:FJ p):Spec Tryz.prog 13 (Args [eG g,ePl p]) [] (eB true) []:=by
 have hG:=xQ g p hl hp
 cases hB:um g p with
 |true=>
  rw [hB] at hG
  (refine Spec.hd (C:=T.cfg [] []) (rs:= [.t 4]) (T.ah _ _) Tryz.func13 rfl rfl Tryz.ntmps13 Tryz.results13 (by simp [AObj.isNest]) (by simp [AObj.isNest]) (by kernel_rfl) T.mixed fun X hX hP hC aJ bQ=> ?_)
  repeat' (first|refine Rn.p ?_|(with_reducible apply And.intro)|((first|(refine hK _ ?_;clear hK K)|with_reducible intro K hK|refine Rs.p ?_|((with_reducible first|apply oP|apply oQ);exact rfl)|refine aa hX hC hP (jx) rfl rfl rfl (by simp only [go_sem,simprocAttr]) rfl ?_|refine aa hX hC hP (hG) rfl rfl rfl (by simp only [go_sem,simprocAttr]) rfl ?_);try simp only [go_sem,simprocAttr])|((with_reducible refine oD ?_ ?_);kernel_rfl)|((with_reducible intro h);try simp only [go_sem,simprocAttr] at h)|omega|intro h)
 |false=>
 rw [hB] at hG
 obtain ⟨b1,b2,b3,b4⟩:=BZ hB
 obtain ⟨b,hr⟩:=R8 g p
 have Ml:=x5 g (by omega) p (FI hB) b hr
 by_cases h0:(qU b g p).2.2=0
 rotate_left
 ·have Mm:decide ((qU b g p).2.2=0)=false:=decide_eq_false h0
  (refine Spec.hd (C:=T.cfg [] []) (rs:= [.t 4]) (T.ah _ _) Tryz.func13 rfl rfl Tryz.ntmps13 Tryz.results13 (by simp [AObj.isNest]) (by simp [AObj.isNest]) (by kernel_rfl) T.mixed fun X hX hP hC aJ bQ=> ?_)
  repeat' (first|refine Rn.p ?_|(with_reducible apply And.intro)|((first|(refine hK _ ?_;clear hK K)|with_reducible intro K hK|refine Rs.p ?_|((with_reducible first|apply oP|apply oQ);exact rfl)|refine aa hX hC hP (jx) rfl rfl rfl (by simp only [go_sem,simprocAttr,Mm]) rfl ?_|refine aa hX hC hP (hG) rfl rfl rfl (by simp only [go_sem,simprocAttr,Mm]) rfl ?_|refine aa hX hC hP (Ml) rfl rfl rfl (by simp only [go_sem,simprocAttr,Mm]) rfl ?_);try simp only [go_sem,simprocAttr,Mm])|((with_reducible refine oD ?_ ?_);kernel_rfl)|((with_reducible intro h);try simp only [go_sem,simprocAttr,Mm] at h)|omega|intro h)
 have MU:aY g p∧nI g=true∧g.n+(cM g).length≤64∧g.es.length+(cM g).length≤128∧qU b g p=(aD g (cM g),lU g p (cM g),0):=by
  unfold qU at h0 ⊢
  split at h0
  ·rename_i h1
   split at h0
   ·cases h0
   ·rename_i h2
    rw [if_pos h1,if_neg h2]
    exact ⟨(gu hr h1.1).1,h1.2,by omega,by omega,rfl⟩
  ·cases h0
 obtain ⟨hrun,hI,hs1,An,hE⟩:=MU
 rw [hE] at Ml
 simp only at Ml
 have hm:=an hrun.1
 have hn:=aB hm
 have Gl:=B9 hrun iW (rW hrun iW) hs1 An
 have Qh:=F2 hrun iW (rW hrun iW) hs1 An hI
 have H9:=an Gl.1
 have hS:=dG (aD g (cM g)) (by rw [cl];omega) (lU g p (cM g)) (rZ Gl) true (j6 Gl)
 rw [kR (j6 Gl) Gl] at hS
 simp only at hS
 have Qi:=wh g hl
 have SD:=wh (aD g (cM g)) (by rw [cl];omega)
 have Cf:=A2 (aD g (cM g)) (by rw [cl];omega)
 rw [Qh] at Cf
 have hT:=xZ (aD g (cM g)) (by rw [cl];omega)
 rw [Gn hm H9] at hT
 have yb:=x6 hm
 have JU:=x6 H9
 have qg:=fun x=>Gp (x:=x) hm
 have O5:=fun x=>Gp (x:=x) H9
 have Mn:=fun (u v:Nat) (hu:u<g.n.toNat) (hv:v<g.n.toNat)=>Ia hm (iW (g:=g)) H9 hu hv
 have Af:(aD g (cM g)).n.toNat=g.n.toNat+(cM g).length:=by show (g.n+((cM g).length:Int)).toNat=_;omega
 rw [Af] at JU
 obtain ⟨N,hN⟩:∃N:Nat,g.n=N:=⟨g.n.toNat,by omega⟩
 have SE:g.n.toNat=N:=by omega
 rw [SE] at yb JU Mn
 have FD:eG g= .agg [eN N, .d (sE g.es)]:=by rw [eG,hN]
 rw [FD] at hG Ml Qi
 clear hE Gl Qh
 generalize fO (aD g (cM g)) (lU g p (cM g)) (aD g (cM g)).n.toNat=e1 at*
 generalize aW (aD g (cM g)) (lU g p (cM g))=e2 at*
 generalize A9 g=U at*
 generalize A9 (aD g (cM g))=V at*
 generalize aD g (cM g)=R at*
 generalize lU g p (cM g)=Q at*
 have TE:((V.length:Int)<(U.length:Int))=False:=by rw [eq_iff_iff,iff_false];omega
 have GG:decide ((V.length:Int)<(N:Int))=false:=decide_eq_false (by omega)
 have DS:decide ((N:Int)=(N:Int))=true:=decide_eq_true rfl
 (refine Spec.hd (C:=T.cfg [] []) (rs:= [.t 4]) (T.ah _ _) Tryz.func13 rfl rfl Tryz.ntmps13 Tryz.results13 (by simp [AObj.isNest]) (by simp [AObj.isNest]) (by kernel_rfl) T.mixed fun X hX hP hC aJ bQ=> ?_)
 repeat' (first|refine Rn.p ?_|(with_reducible apply And.intro)|((first|(refine hK _ ?_;clear hK K)|with_reducible intro K hK|refine Rs.p ?_|((with_reducible first|apply oP|apply oQ);exact rfl)|refine aa hX hC hP (jx) rfl rfl rfl (by simp only [go_sem,simprocAttr,yb,GG,DS,hN,List.length_nil,List.map_nil]) rfl ?_|refine aa hX hC hP (hG) rfl rfl rfl (by simp only [go_sem,simprocAttr,yb,GG,DS,hN,List.length_nil,List.map_nil]) rfl ?_|refine aa hX hC hP (Ml) rfl rfl rfl (by simp only [go_sem,simprocAttr,yb,GG,DS,hN,List.length_nil,List.map_nil]) rfl ?_|refine aa hX hC hP (hS) rfl rfl rfl (by simp only [go_sem,simprocAttr,yb,GG,DS,hN,List.length_nil,List.map_nil]) rfl ?_|refine aa hX hC hP (Qi) rfl rfl rfl (by simp only [go_sem,simprocAttr,yb,GG,DS,hN,List.length_nil,List.map_nil]) rfl ?_|refine aa hX hC hP (SD) rfl rfl rfl (by simp only [go_sem,simprocAttr,yb,GG,DS,hN,List.length_nil,List.map_nil]) rfl ?_|refine aa hX hC hP (Cf) rfl rfl rfl (by simp only [go_sem,simprocAttr,yb,GG,DS,hN,List.length_nil,List.map_nil]) rfl ?_|refine aa hX hC hP (hT) rfl rfl rfl (by simp only [go_sem,simprocAttr,yb,GG,DS,hN,List.length_nil,List.map_nil]) rfl ?_);try simp only [go_sem,simprocAttr,yb,GG,DS,hN,List.length_nil,List.map_nil])|((with_reducible refine oD ?_ ?_);kernel_rfl)|((with_reducible intro h);try simp only [go_sem,simprocAttr,yb,GG,DS,hN,List.length_nil,List.map_nil] at h)|omega|intro h)
 refine ai (fun a:Nat=>a≤N) (fun a=>⟨[(4,eB false),(11, .d (sU U)),(12, .d (sU V)),(69,eN N),(70,eN a)], []⟩) (fun a=>N - a) 0 (by omega) ?_ ?_
 ·refine Le.of ?_ ?_<;>simp [go_sem,simprocAttr]
 rintro a ha
 rcases Nat.lt_or_ge a N with xx|TF
 rotate_left
 ·have hba:decide ((a:Int)<(N:Int))=false:=decide_eq_false (by omega)
  repeat' (first|refine Rn.p ?_|(with_reducible apply And.intro)|((first|(refine hK _ ?_;clear hK K)|with_reducible intro K hK|refine Rs.p ?_|((with_reducible first|apply oP|apply oQ);exact rfl));try simp only [go_sem,simprocAttr,hba])|((with_reducible refine oD ?_ ?_);kernel_rfl)|((with_reducible intro h);try simp only [go_sem,simprocAttr,hba] at h)|omega|intro h)
 have hba:decide ((a:Int)<(N:Int))=true:=decide_eq_true (by omega)
 repeat' (first|refine Rn.p ?_|(with_reducible apply And.intro)|((first|(refine hK _ ?_;clear hK K)|with_reducible intro K hK|refine Rs.p ?_|((with_reducible first|apply oP|apply oQ);exact rfl));try simp only [go_sem,simprocAttr,hba,yb])|((with_reducible refine oD ?_ ?_);kernel_rfl)|((with_reducible intro h);try simp only [go_sem,simprocAttr,hba,yb] at h)|omega|intro h)
 refine ai (fun c:Nat=>c≤N) (fun c=>⟨[(4,eB false),(11, .d (sU U)),(12, .d (sU V)),(69,eN N),(70,eN a),(13,eN a),(74,eN N),(75,eN c)], []⟩) (fun c=>N - c) 0 (by omega) ?_ ?_
 ·refine Le.of ?_ ?_<;>simp [go_sem,simprocAttr]
 rintro c hc
 rcases Nat.lt_or_ge c N with hcl|TG
 rotate_left
 ·have hbc:decide ((c:Int)<(N:Int))=false:=decide_eq_false (by omega)
  repeat' (first|refine Rn.p ?_|(with_reducible apply And.intro)|((first|(refine hK _ ?_;clear hK K)|with_reducible intro K hK|refine Rs.p ?_|((with_reducible first|apply oP|apply oQ);exact rfl));try simp only [go_sem,simprocAttr,hbc])|((with_reducible refine oD ?_ ?_);kernel_rfl)|((with_reducible intro h);try simp only [go_sem,simprocAttr,hbc] at h)|omega|intro h)
  refine ⟨a+1,by omega, ?_,by omega⟩
  refine Le.of ?_ ?_<;>simp [go_sem,simprocAttr,hbc]
 have hbc:decide ((c:Int)<(N:Int))=true:=decide_eq_true (by omega)
 have Qj:Spec Tryz.prog 26 (Args [eU (U.getD a 0),eN c]) [] (eB (Bk (U.getD a 0) c)) []:=qk _ (qg a) _
 have O6:Spec Tryz.prog 26 (Args [eU (V.getD a 0),eN c]) [] (eB (Bk (V.getD a 0) c)) []:=qk _ (O5 a) _
 rw [Mn a c xx hcl] at O6
 generalize Bk (U.getD a 0) (c:Int)=v at Qj O6
 cases v
 all_goals (repeat' (first|refine Rn.p ?_|(with_reducible apply And.intro)|((first|(refine hK _ ?_;clear hK K)|with_reducible intro K hK|refine Rs.p ?_|((with_reducible first|apply oP|apply oQ);exact rfl)|refine aa hX hC hP (Qj) rfl rfl rfl (by simp only [go_sem,simprocAttr,hbc,yb,JU]) rfl ?_|refine aa hX hC hP (O6) rfl rfl rfl (by simp only [go_sem,simprocAttr,hbc,yb,JU]) rfl ?_);try simp only [go_sem,simprocAttr,hbc,yb,JU])|((with_reducible refine oD ?_ ?_);kernel_rfl)|((with_reducible intro h);try simp only [go_sem,simprocAttr,hbc,yb,JU] at h)|omega|intro h))
 all_goals (refine ⟨c+1,by omega, ?_,by omega⟩)
 all_goals (refine Le.of ?_ ?_<;>simp [go_sem,simprocAttr,hbc,yb,JU])
end Go.Ab
end
