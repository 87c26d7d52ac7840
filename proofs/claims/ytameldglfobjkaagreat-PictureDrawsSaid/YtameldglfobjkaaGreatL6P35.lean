/- A part of the proof. -/
import Derived.Test.YtameldglfobjkaaGreatL6P34
set_option linter.unusedSimpArgs false
set_option linter.unusedVariables false
set_option linter.unusedSectionVars false
section
set_option maxHeartbeats 16000000
set_option maxRecDepth 20000
namespace Go.Ab
attribute [local congr] ACall.congr gd.congr Ny.congr vcOps.congr
open Go.Proofs
theorem FA(g:Gr)(d:Dr)(p:Pl)(yJ:g.es.length<=1000)(dI:d.pts.length<=1000)(hls:d.ls.length<=1000)(iF:∀l∈d.ls,l.length<=1000)(h0:(kG g d).1=0)(hp:ug g d p):Spec Tryz.prog 29 (Args [eG g,eDr d]) [] (.tup [ePl p,eN 0]) []:=by
 have hR:=fJ g d yJ dI hls iF
 obtain⟨hc0,h⟩:=VP h0
 rw[hc0]at hR
 have hm:=ah h.AA
 have hn:=aB hm
 obtain⟨N,hN⟩:∃N:Nat,g.n=N:=⟨g.n.toNat,by omega⟩
 have hNt:g.n.toNat=N:=by omega
 have lo:p.outs.length=N:=by rw[hp.len,hNt]
 have hOf:=sx g hm
 have hSo:=QZ hp
 rw[hNt]at hSo
 have hS2:=JQ h hSo (fun i hi=>by have:=cE.1 hi;omega) (by rw[gY];omega)
 have hO:=fun (x:Nat) (hx:x<N)=>JL g hm x ⟨by omega,by omega⟩
 have YU:=fun (x:Nat) (hx:x<N)=>JP h (x:=(x:Int)) ⟨by omega,by omega⟩ (Nu hp (x:=x) (by omega)) (fun i hi=>by have:=(gA hi).1;omega) (by have:=iU (f:=(·.1)) (es:=g.es) (k:=g.es.length) (x:=(x:Int));show(aJ (·.1) g.es g.es.length (x:Int)).length<=_;omega)
 have Qn:eG g= .agg [eN N, .d (sE g.es)]:=by rw[eG,hN]
 rw[Qn]at hR hOf ⊢
 have hdx:eDr d= .agg [.d (sP d.pts), .d (sLn d.ls)]:=rfl
 (refine T.h [28] [] [.c 4 28, .t 5] Tryz.func29 rfl rfl (by kernel_rfl) fun X hX hP hC aA bB=> ?_)
 repeat' (first|refine Rn.p ?_|((first|refine Rs.p ?_|with_reducible intro K hK|(refine hK _ ?_;clear hK K)|refine aa (hR) rfl ?_|refine aa (hOf) rfl ?_);try simp only[go_sem,simprocAttr,CL]))
 (refine jj hX 7 0 200 (.own 3 1 []) rfl rfl rfl (by simp only[go_sem,simprocAttr,CL]) (by decide) (by simp[go_sem,simprocAttr,CL]) ⟨3,1,by decide, .inl rfl⟩ ?_;simp only[List.set_cons_zero,List.set_cons_succ,go_sem,simprocAttr,CL])
 (refine jj hX 7 1 201 (.tip 25 1 []) rfl rfl rfl (by simp only[go_sem,simprocAttr,CL]) (by decide) (by simp[go_sem,simprocAttr,CL]) ⟨25,1,by decide, .inr rfl⟩ ?_;simp only[List.set_cons_zero,List.set_cons_succ,go_sem,simprocAttr,CL])
 refine ag (fun k:Nat=>k<=N) (fun k=>⟨[(2, .ptr 2 0),(3, .ptr 3 0),(4, .ptr 4 0),(5,eN 0),(6, .d (vw g)),(7, .ptr 7 0),(20,eN N),(21,eN k)], [(2, .box [eN N, .d (sE g.es)]),(3, .box [.d (sP d.pts), .d (sLn d.ls)]),(4, .box [.nil 3, .nil 25]),(7, .box [.ref 200, .ref 201]),(200, .own 3 1 ((dD k).map rI)),(201, .tip 25 1 (vI (p.outs.take k)))]⟩) (fun k=>N - k) 0 (by omega) ?_ ?_
 ·refine Le.of ?_ ?_<;>simp[go_sem,simprocAttr,dD,vI]
 rintro k hk
 rcases adj k N with cM|RH
 ·have hb:decide ((k:Int)<(N:Int))=true:=ac6 (by omega)
  have hO:=hO k cM
  have YU:=YU k cM
  have dw:vI (p.outs.take (k+1))=vI (p.outs.take k)++ [[sI (p.outs.getD k [])]]:=by
   simp only[vI];rw[uS (d:= []) (show k<p.outs.length by omega)]
  have hna:=NO (k:=k)
  have htl:(p.outs.take k).length=k:=by rw[adG];omega
  have y6:(dD k).length=k:=gY
  generalize p.outs.getD k []=L at YU dw
  generalize b8 g (k:Int)=l at hO YU
  generalize H6:p.outs.take (k+1)=T2 at dw
  generalize p.outs.take k=T1 at dw htl
  generalize M8:(dD (k+1)).map rI=A2 at hna
  generalize dD k=A1 at hna y6
  repeat' (first|(show cR _ (.seq (.region 8 _ _) _) _ _;(refine dY hX 7 0 28 200 rfl rfl rfl (by first|exact .inl rfl|exact .inr rfl) (by decide) (by decide) ?_;simp only[List.set_cons_zero,List.set_cons_succ,go_sem,simprocAttr,hb,htl,y6,CL]))|(show cR _ (.region 10 _ _) _ _;(refine pG hX 32 rfl (.inl rfl) ?_;simp only[go_sem,simprocAttr,hb,htl,y6,CL]))|(show cR _ (.region 11 _ _) _ _;(refine dY hX 7 1 40 201 rfl rfl rfl (by first|exact .inl rfl|exact .inr rfl) (by decide) (by decide) ?_;simp only[List.set_cons_zero,List.set_cons_succ,go_sem,simprocAttr,hb,htl,y6,CL]))|refine Rn.p ?_|((first|refine Rs.p ?_|with_reducible intro K hK|(refine hK _ ?_;clear hK K)|(refine fu 32 (hO) ?_ (by first|exact tV|exact tW|exact tY|exact wO) rfl (by decide) ?_;(focus(simp only[go_sem,simprocAttr,hb,htl,y6,CL];done)))|(refine aS [(10000,32),(10001,3),(10002,8)] (YU) ?_ ?_;(focus(simp[go_sem,simprocAttr,hb,htl,y6,CL];done))));try simp only[go_sem,simprocAttr,hb,htl,y6,CL])|with_reducible (apply And.intro)|omega)
  refine⟨k+1,by omega, ?_,by omega⟩
  rw[M8,H6,hna,dw]
  refine Le.of ?_ ?_<;>simp[go_sem,simprocAttr,hb,htl,y6,CL,rI]
 have hb:decide ((k:Int)<(N:Int))=false:=ac5 (by omega)
 obtain rfl:k=N:=by omega
 rw[show p.outs.take k=p.outs by rw[<- lo];exact aee]
 generalize dD k=A1 at*
 repeat' (first|refine Rn.p ?_|((first|refine Rs.p ?_|with_reducible intro K hK|(refine hK _ ?_;clear hK K)|(refine aS [(10000,200),(10001,3)] (hS2) ?_ ?_;(focus(simp[go_sem,simprocAttr,hb,CL];done))));try simp only[go_sem,simprocAttr,hb,CL]))
def ab2(n:Nat)(us:List Int):List Bool:=(List.range n).map fun x:Nat=>decide ((x:Int)∈us)
def ab3(n:Nat)(ls:List (List Int))(k:Nat):List (List Int):=(List.range n).map fun x=>if x<k then ls.getD x [] else []
def ac3(b:Br)(u v:Int):Bool:=decide (yB b u<yB b v)||(decide (yB b u=yB b v)&&decide (fB b u<fB b v))
def swX(b:Br)(a c:Int):Bool:=decide (xB b c<xB b a)
def TP(d:Dr)(u v:Int):Bool:=decide ((eD d u).2<(eD d v).2)||(decide ((eD d u).2=(eD d v).2)&&decide ((eD d u).1<(eD d v).1))
def ZH(d:Dr)(x a c:Int):Bool:=decide (Gp (eD d x) (jv d a) (jv d c)=1)
instance {d:Dr} {x i k:Int} :Decidable (mD d x i k):=inferInstanceAs (Decidable (0<_))
theorem Wn{d:Dr}{x a c:Int}(hx:bC (eD d x))(ha:bC (jv d a))(hc:bC (jv d c)):ZH d x a c=decide (mD d x c a):=by
 unfold ZH Gp
 rw[ac9 ⟨hx,ha,hc⟩]
 have e:ai (eD d x) (jv d a) (jv d c)=yy d x c a:=by unfold ai yy tm;grind
 rw[e]
 unfold mD jh
 congr 1
 refine propext ⟨fun h=> ?_,fun h=> ?_⟩<;>split at* <;>(try split at*)<;>omega
theorem RD{g:Gr}{d:Dr}(R:yx g d){x:Nat}(hx:x<g.n.toNat):(SQ (ZH d x) (b8 g x).length (b8 g x)).Pairwise (mD d x):=by
 have bR:(b8 g (x:Int)).Nodup:=b7
 have hin:∀i∈b8 g (x:Int),(0<=i/\i<g.es.length)/\bt g i=x:=fun i hi=>gA hi
 have hX:bC (eD d x):=R.Zn _ (az (by have:=R.np;omega))
 have hF:∀i∈b8 g (x:Int),bC (jv d i):=fun i hi=>R.qx _ (iN R (hin i hi).1.1 (hin i hi).1.2) _ (az (by have:=(R.len _ (iN R (hin i hi).1.1 (hin i hi).1.2)).1;omega))
 refine uU (S:=fun i=>i∈b8 g (x:Int)) (fun a c e ha hc he h1 h2=>Na R (hin a ha).1 (hin c hc).1 (hin e he).1 (hin a ha).2 (hin c hc).2 (hin e he).2 h1 h2) (fun a c ha hc hne=> ?_) (adg _) bR fun i hi=>hi
 rw[Wn hX (hF a ha) (hF c hc)]
 rcases Nb R (hin a ha).1 (hin c hc).1 (hin a ha).2 (hin c hc).2 hne with h|h
 ·rw[ac7 (by simp;exact fun h2=>xw h h2)];exact h
 ·rw[ac9 (by simpa using h)];exact h
theorem DS{f:Nat->List Int}{n i:Nat}(h:i<n):((List.range n).map f).getD i []=f i:=by
 rw[aas,adm,adp h];rfl
theorem RE{g:Gr}{d:Dr}(h:yx g d):∃p,ug g d p:=by
 have hnp:=h.np
 have tri:∀u v:Int,fN g u->fN g v->u≠v->JM d u v\/JM d v u:=fun u v hu hv hne=>by
  have VF:=hu.1;have hu1:=hu.2;have TV:=hv.1;have Ky:=hv.2
  have ER:eD d u≠eD d v:=fun e=>by
   rcases Nat.lt_or_gt_of_ne (show u.toNat≠v.toNat by omega) with h1|h1
   ·exact h.alone u.toNat v.toNat h1 (by omega) e
   ·exact h.alone v.toNat u.toNat h1 (by omega) e.symm
  have h2:¬((eD d u).1=(eD d v).1/\(eD d u).2=(eD d v).2):=fun e=>ER (afr e.1 e.2)
  unfold JM
  omega
 refine⟨⟨SQ (fun a c=>TP d c a) g.n.toNat (dD g.n.toNat),(List.range g.n.toNat).map fun x:Nat=>SQ (ZH d x) (b8 g x).length (b8 g x)⟩,⟨wV, ?_,by simp,fun x hx=> ?_,fun x hx=> ?_⟩⟩
 ·refine uU (S:=fun v=>fN g v) (fun a c d _ _ _ h1 h2=>by unfold JM at*;omega) (fun a c ha hc hne=> ?_) (by rw[gY];omega) jM fun v hv=>by have:=cE.1 hv;exact⟨by omega,by omega⟩
  have:=tri a c ha hc hne
  by_cases h1:TP d c a=true
  ·rw[ac9 h1]
   simp only[TP,adK,adf,adb]at h1
   unfold JM;omega
  ·rw[ac7 h1]
   simp only[TP,adK,adf,adb]at h1
   unfold JM at*;omega
 ·rw[DS hx];exact wV
 ·rw[DS hx]
  exact RD h hx
theorem FB{g:Gr}{p:Pl}(hr:aG g p):(gr g p).length<=64/\∀l∈gr g p,l.length<=1000:=by
 have hm:=ah hr.1
 have hn:=aB hm
 refine⟨by rw[tq,hr.2.1.1];omega,fun l hl=> ?_⟩
 obtain⟨x,hx,rfl⟩:=ada.1 hl
 have hx:=adk.1 hx
 have Gg:x<g.n.toNat:=by rw[<- hr.2.1.1];exact hx
 have Fz:fN g (x:Int):=⟨by omega,by omega⟩
 rw[Ce hr Gg,adi,adn,adn,aeP]
 have h1:=(Fh hr Gg).1
 obtain⟨n1,m1⟩:=er hr Fz
 have h2:=jP n1 (m:=(List.range g.es.length).map Int.ofNat) fun e he=>by
  have:=((m1 e).1 he).1
  exact ada.2 ⟨e.toNat,adk.2 (by omega),by show(e.toNat:Int)=_;omega⟩
 simp at h2
 omega
theorem TQ(xs ys:List Int)(v:Nat)(h1:v<xs.length)(h2:v<ys.length)(hx:xs.length<=1000)(hy:ys.length<=1000):Spec Tryz.prog 60 (Args [eN v, .ptr 10001 0, .ptr 10002 0]) [(10001, .rob [.d (sI xs)]),(10002, .rob [.d (sI ys)])] (.agg [eN (xs.getD v 0),eN (ys.getD v 0)]) [(10001, .rob [.d (sI xs)]),(10002, .rob [.d (sI ys)])]:=by
 (refine T.h [] [] [.c 4 54] Tryz.func60 rfl rfl (by kernel_rfl) fun X hX hP hC aA bB=> ?_)
 repeat' (first|refine Rn.p ?_|((first|refine Rs.p ?_|with_reducible intro K hK|(refine hK _ ?_;clear hK K));try simp only[go_sem,simprocAttr])|with_reducible (first|apply And.intro|refine oD (by kernel_rfl) ?_)|omega)
theorem Ka(g:Gr)(hl:g.es.length<=1000)(p:Pl)(hp:uc p)(hp1:p.ord.length<=1000)(hp2:p.outs.length<=1000)(hp3:∀l∈p.outs,l.length<=1000)(b:Bool)(hr:b=true↔(bX g).1=0/\bq g p):
 Spec Tryz.prog 20 (Args [eG g,ePl p]) [] (.tup [eDr (DQ b g p).1,eN (DQ b g p).2]) []:=by
 have ZI:=EW g hl p hp hp1 hp2 hp3 b hr
 by_cases h0:(tI b g p).2.2=0
 rotate_left
 ·have YV:DQ b g p=(dz,(tI b g p).2.2):=ac9 h0
  have hb0:decide ((tI b g p).2.2=0)=false:=ac5 h0
  rw[YV]
  (refine T.h [] [] [.c 4 50, .t 5] Tryz.func20 rfl rfl (by kernel_rfl) fun X hX hP hC aA bB=> ?_)
  repeat' (first|refine Rn.p ?_|((first|refine Rs.p ?_|with_reducible intro K hK|(refine hK _ ?_;clear hK K)|refine aa (ZI) rfl ?_);try simp only[go_sem,simprocAttr,hb0,dz]))
  all_goals rfl
 obtain⟨hO,hE⟩:=Ll hr h0
 rw[hE]at ZI
 have W0:=ij hO
 have hiA:=QB hO
 have hR0:(dF true (aj g p) (bK g p)).2.1=0:=by rw[p9 (xK W0) W0]
 by_cases h1:64<(aj g p).n+(cO (aj g p)).length\/128<(aj g p).es.length+(cO (aj g p)).length
 ·have YV:DQ b g p=(dz,10):=by unfold DQ;rw[ac7 (by rw[h0];simp),ac9 h1]
  have hN:=J5 (aj g p) (by have:=hO.es;omega) (bK g p) (Fx W0) true (xK W0) hR0 hiA h1
  rw[YV]
  (refine T.h [] [] [.c 4 50, .t 5] Tryz.func20 rfl rfl (by kernel_rfl) fun X hX hP hC aA bB=> ?_)
  repeat' (first|refine Rn.p ?_|((first|refine Rs.p ?_|with_reducible intro K hK|(refine hK _ ?_;clear hK K)|refine aa (ZI) rfl ?_|refine aa (hN) rfl ?_);try simp only[go_sem,simprocAttr,dz]))
  all_goals rfl
 have YV:DQ b g p=(YS g (aj g p).n (cO (aj g p)) (Aj g p false) (Aj g p true),0):=by unfold DQ;rw[ac7 (by rw[h0];simp),ac7 h1]
 have W5:Room g p:=⟨hO,by omega,by omega⟩
 rw[YV]
 have hN:=NK (aj g p) (by have:=hO.es;omega) (bK g p) (Fx W0) W0 hiA (cO (aj g p)) rfl (by omega) (by omega)
 have ZJ:=HT W5
 have hk:=JG (aO (aj g p) (cO (aj g p))) (by rw[dV];omega) (HH (aj g p) (bK g p) (cO (aj g p))) (Fx ZJ) true (xK ZJ)
 have Ib:VZ true (aO (aj g p) (cO (aj g p))) (HH (aj g p) (bK g p) (cO (aj g p)))=(Aj g p false,Aj g p true,0):=ac9 ⟨by rw[p9 (xK ZJ) ZJ],LP W5⟩
 rw[Ib]at hk
 simp only at hk
 have hm:=ah hO.run.1
 have hn:=aB hm
 have SH:=e9 (g:=g) (p:=p)
 have lx:(Aj g p false).length=((aj g p).n+(cO (aj g p)).length).toNat:=LS
 have ly:(Aj g p true).length=((aj g p).n+(cO (aj g p)).length).toNat:=LS
 have hbk:=kI (g:=aj g p)
 have hfind:=fun i=>HV (g:=aj g p) hbk.nd (i:=i)
 have hval:=fun i hi=>TJ (g:=aj g p) hbk.nd (i:=i) hi
 have hix:∀i∈cO (aj g p),(cO (aj g p)).idxOf i<(cO (aj g p)).length:=fun i hi=>(ve hi).1
 generalize Aj g p false=xs at*
 generalize Aj g p true=ys at*
 generalize cO (aj g p)=bs at*
 have gK:aO (aj g p) bs=⟨(aj g p).n+bs.length,mP (aj g p) bs⟩:=rfl
 have Y6:HH (aj g p) (bK g p) bs=⟨gJ (aj g p) bs bs.length (bK g p).ord,(bK g p).outs++mQ (aj g p) bs.length⟩:=rfl
 rw[gK,Y6]at hk
 have hAn:(aj g p).n<=64:=hO.n
 generalize qv (aj g p) bs bs.length=ak at*
 generalize mP (aj g p) bs=E at*
 generalize gJ (aj g p) bs bs.length (bK g p).ord=RO at*
 generalize (bK g p).outs++mQ (aj g p) bs.length=RL at*
 generalize bK g p=AP at*
 obtain⟨AN,LW⟩:∃AN:Nat,(aj g p).n=AN:=⟨(aj g p).n.toNat,by omega⟩
 generalize hAG:aj g p=A at*
 have qy:∀v:Nat,v<AN+bs.length->Spec Tryz.prog 60 (Args [eN v, .ptr 10001 0, .ptr 10002 0]) [(10001, .rob [.d (sI xs)]),(10002, .rob [.d (sI ys)])] (.agg [eN (xs.getD v 0),eN (ys.getD v 0)]) [(10001, .rob [.d (sI xs)]),(10002, .rob [.d (sI ys)])]:=fun v hv=>TQ xs ys v (by omega) (by omega) (by omega) (by omega)
 (refine T.h [] [] [.c 4 50, .t 5] Tryz.func20 rfl rfl (by kernel_rfl) fun X hX hP hC aA bB=> ?_)
 repeat' (first|(show cR _ (.seq (.region 7 _ _) _) _ _;(refine pG hX 301 rfl (.inl rfl) ?_;simp only[go_sem,simprocAttr,tJ,LW]);(refine pG hX 302 rfl (.inl rfl) ?_;simp only[go_sem,simprocAttr,tJ,LW]);(refine pG hX 303 rfl (.inl rfl) ?_;simp only[go_sem,simprocAttr,tJ,LW]))|(show cR _ (.seq (.region 10 _ _) _) _ _;(refine jj hX 14 0 401 (.tip 54 2 []) rfl rfl rfl (by simp only[go_sem,simprocAttr,tJ,LW]) (by decide) (by simp[go_sem,simprocAttr,tJ,LW]) ⟨54,2,by decide, .inr rfl⟩ ?_;simp only[List.set_cons_zero,List.set_cons_succ,go_sem,simprocAttr,tJ,LW]);(refine jj hX 14 1 402 (.tip 47 1 []) rfl rfl rfl (by simp only[go_sem,simprocAttr,tJ,LW]) (by decide) (by simp[go_sem,simprocAttr,tJ,LW]) ⟨47,1,by decide, .inr rfl⟩ ?_;simp only[List.set_cons_zero,List.set_cons_succ,go_sem,simprocAttr,tJ,LW]))|refine Rn.p ?_|((first|refine Rs.p ?_|with_reducible intro K hK|(refine hK _ ?_;clear hK K)|refine aa (ZI) rfl ?_|(refine aS [(10000,300),(10001,301),(10002,302),(10003,303),(10004,304)] (hN) ?_ ?_;(focus(simp[go_sem,simprocAttr,tJ,LW];done)))|(refine dN (hk) ?_ rfl ?_;(focus(simp only[go_sem,simprocAttr,tJ,LW];done))));try simp only[go_sem,simprocAttr,tJ,LW])|with_reducible (refine oD (by kernel_rfl) ?_))
 refine ag (fun k:Nat=>k<=g.n.toNat) (fun k=>⟨[(2, .ptr 2 0),(4, .ptr 4 0),(5,eN 0),(9, .ptr 300 0),(13, .fn 60 [] [.ptr 10 0, .ptr 11 0]),(14, .ptr 14 0),(58,eN g.n),(59,eN k)], [(2, .box [eN g.n, .d (sE g.es)]),(4, .box [.nil 54, .nil 47]),(10, .box [.d (sI xs)]),(11, .box [.d (sI ys)]),(14, .box [.ref 401, .ref 402]),(300, .box [eN ((AN:Int)+(bs.length:Int)), .d (sE E), .d (sI RO), .d (.sl 1 (vI RL)), .mref 304]),(304, .mp 0 ak),(401, .tip 54 2 ((vi xs ys k).map rP)),(402, .tip 47 1 [])]⟩) (fun k=>g.n.toNat - k) 0 (by omega) ?_ ?_
 ·refine Le.of ?_ ?_<;>simp[go_sem,simprocAttr,vi,LW]
 rintro k hk
 rcases adj k g.n.toNat with hlt|hge
 ·have hb:decide ((k:Int)<g.n)=true:=ac6 (by omega)
  have hc:=qy k (by omega)
  have dw:=Rw (xs:=xs) (ys:=ys) (k:=k)
  have dI:=Ai (xs:=xs) (ys:=ys) (k:=k)
  generalize hP2:vi xs ys (k+1)=P2 at dw
  generalize vi xs ys k=P1 at dw dI
  repeat' (first|(show cR _ (.region 14 _ _) _ _;(refine dY hX 14 0 68 401 rfl rfl rfl (by first|exact .inl rfl|exact .inr rfl) (by decide) (by decide) ?_;simp only[List.set_cons_zero,List.set_cons_succ,go_sem,simprocAttr,hb,dI]))|refine Rn.p ?_|((first|refine Rs.p ?_|with_reducible intro K hK|(refine hK _ ?_;clear hK K)|(refine bw [(10001,10),(10002,11)] (hc) ?_ ?_;(focus(simp[go_sem,simprocAttr,hb,dI];done))));try simp only[go_sem,simprocAttr,hb,dI])|with_reducible (first|apply And.intro|refine oD (by kernel_rfl) ?_)|omega)
  refine⟨k+1,by omega, ?_,by omega⟩
  rw[hP2,dw]
  refine Le.of ?_ ?_<;>simp[go_sem,simprocAttr,hb,dI,Ii,rP]
 have hb:decide ((k:Int)<g.n)=false:=ac5 (by omega)
 obtain rfl:k=g.n.toNat:=by omega
 repeat' (first|refine Rn.p ?_|((first|refine Rs.p ?_|with_reducible intro K hK|(refine hK _ ?_;clear hK K));try simp only[go_sem,simprocAttr,hb]))
 have hdr:YS g (AN:Int) bs xs ys=⟨vi xs ys g.n.toNat,tK g (AN:Int) bs xs ys g.es.length⟩:=rfl
 have dI:=Ai (xs:=xs) (ys:=ys) (k:=g.n.toNat)
 rw[hdr]
 generalize vi xs ys g.n.toNat=PT at dI
 refine ag (fun i:Nat=>i<=g.es.length) (fun i=>⟨[(2, .ptr 2 0),(4, .ptr 4 0),(5,eN 0),(9, .ptr 300 0),(13, .fn 60 [] [.ptr 10 0, .ptr 11 0]),(14, .ptr 14 0),(72, .d (sE g.es)),(73,eN g.es.length),(74,eN i)], [(2, .box [eN g.n, .d (sE g.es)]),(4, .box [.nil 54, .nil 47]),(10, .box [.d (sI xs)]),(11, .box [.d (sI ys)]),(14, .box [.ref 401, .ref 402]),(300, .box [eN ((AN:Int)+(bs.length:Int)), .d (sE E), .d (sI RO), .d (.sl 1 (vI RL)), .mref 304]),(304, .mp 0 ak),(401, .tip 54 2 (PT.map rP)),(402, .tip 47 1 (vP (tK g (AN:Int) bs xs ys i)))]⟩) (fun i=>g.es.length - i) 0 (by omega) ?_ ?_
 ·refine Le.of ?_ ?_<;>simp[go_sem,simprocAttr,tK,vP]
 rintro i hi
 rcases adj i g.es.length with hil|N0
 ·have hb:decide ((i:Int)<(g.es.length:Int))=true:=ac6 (by omega)
  have t1:=aT hm hil
  have t2:=aU hm hil
  obtain⟨u,hu⟩:∃u:Nat,(g.es.getD i (0,0)).1=u:=⟨(g.es.getD i (0,0)).1.toNat,by have:=t1.1;unfold tl at this;omega⟩
  obtain⟨w,hw⟩:∃w:Nat,(g.es.getD i (0,0)).2=w:=⟨(g.es.getD i (0,0)).2.toNat,by have:=t2.1;unfold hd at this;omega⟩
  have WS:tl g i=u:=hu
  have Zp:hd g i=w:=hw
  have hc1:=qy u (by omega)
  have Pq:=qy w (by omega)
  have dw:=Rx (g:=g) (N:=(AN:Int)) (bs:=bs) (xs:=xs) (ys:=ys) (k:=i)
  have iF:=Fw (g:=g) (N:=(AN:Int)) (bs:=bs) (xs:=xs) (ys:=ys) (k:=i)
  have Uq:∀l1 l2,vP (l1++ [l2])=vP l1++ [[sP l2]]:=fun l1 l2=>by simp[vP]
  have Ig:=hfind (i:Int)
  generalize hL2:tK g (AN:Int) bs xs ys (i+1)=L2 at dw
  generalize tK g (AN:Int) bs xs ys i=L1 at dw iF
  by_cases hin:(i:Int)∈bs
  ·rw[ac9 hin]at Ig
   have N8:=hval (i:Int) hin
   have hq:=hix (i:Int) hin
   have Eh:N7 g (AN:Int) bs xs ys i= [Ii xs ys u,Ii xs ys (AN+bs.idxOf (i:Int)),Ii xs ys w]:=by
    unfold N7 HS
    rw[ac9 hin,WS,Zp,Int.toNat_natCast,Int.toNat_natCast,show((AN:Int)+(bs.idxOf (i:Int):Nat)).toNat=AN+bs.idxOf (i:Int) by omega]
    rfl
   generalize bs.idxOf (i:Int)=q at Ig N8 hq Eh
   rw[LW,show(AN:Int)+(q:Int)=((AN+q:Nat):Int) by omega]at N8
   have WD:=qy (AN+q) (by omega)
   generalize AN+q=qq at N8 Eh WD
   repeat' (first|(show cR _ (.region 23 _ _) _ _;(refine dY hX 14 1 110 402 rfl rfl rfl (by first|exact .inl rfl|exact .inr rfl) (by decide) (by decide) ?_;simp only[List.set_cons_zero,List.set_cons_succ,go_sem,simprocAttr,hb,hu,hw,Ig,N8,vP_length,iF,Option.isSome_some]))|refine Rn.p ?_|((first|refine Rs.p ?_|with_reducible intro K hK|(refine hK _ ?_;clear hK K)|(refine bw [(10001,10),(10002,11)] (hc1) ?_ ?_;(focus(simp[go_sem,simprocAttr,hb,hu,hw,Ig,N8,vP_length,iF,Option.isSome_some];done)))|(refine bw [(10001,10),(10002,11)] (Pq) ?_ ?_;(focus(simp[go_sem,simprocAttr,hb,hu,hw,Ig,N8,vP_length,iF,Option.isSome_some];done)))|(refine bw [(10001,10),(10002,11)] (WD) ?_ ?_;(focus(simp[go_sem,simprocAttr,hb,hu,hw,Ig,N8,vP_length,iF,Option.isSome_some];done))));try simp only[go_sem,simprocAttr,hb,hu,hw,Ig,N8,vP_length,iF,Option.isSome_some])|with_reducible (first|apply And.intro|refine oD (by kernel_rfl) ?_)|omega)
   refine⟨i+1,by omega, ?_,by omega⟩
   rw[hL2,dw,Eh,Uq]
   refine Le.of ?_ ?_<;>simp[go_sem,simprocAttr,hb,hu,hw,Ig,N8,vP_length,iF,Option.isSome_some,Ii,rP,sP]
  ·rw[ac7 hin]at Ig
   have Eh:N7 g (AN:Int) bs xs ys i= [Ii xs ys u,Ii xs ys w]:=by
    unfold N7 HS
    rw[ac7 hin,WS,Zp,Int.toNat_natCast,Int.toNat_natCast]
    rfl
   repeat' (first|(show cR _ (.region 23 _ _) _ _;(refine dY hX 14 1 110 402 rfl rfl rfl (by first|exact .inl rfl|exact .inr rfl) (by decide) (by decide) ?_;simp only[List.set_cons_zero,List.set_cons_succ,go_sem,simprocAttr,hb,hu,hw,Ig,vP_length,iF,Option.isSome_none]))|refine Rn.p ?_|((first|refine Rs.p ?_|with_reducible intro K hK|(refine hK _ ?_;clear hK K)|(refine bw [(10001,10),(10002,11)] (hc1) ?_ ?_;(focus(simp[go_sem,simprocAttr,hb,hu,hw,Ig,vP_length,iF,Option.isSome_none];done)))|(refine bw [(10001,10),(10002,11)] (Pq) ?_ ?_;(focus(simp[go_sem,simprocAttr,hb,hu,hw,Ig,vP_length,iF,Option.isSome_none];done))));try simp only[go_sem,simprocAttr,hb,hu,hw,Ig,vP_length,iF,Option.isSome_none])|with_reducible (first|apply And.intro|refine oD (by kernel_rfl) ?_)|omega)
   refine⟨i+1,by omega, ?_,by omega⟩
   rw[hL2,dw,Eh,Uq]
   refine Le.of ?_ ?_<;>simp[go_sem,simprocAttr,hb,hu,hw,Ig,vP_length,iF,Option.isSome_none,Ii,rP,sP]
 have hb:decide ((i:Int)<(g.es.length:Int))=false:=ac5 (by omega)
 obtain rfl:i=g.es.length:=by omega
 repeat' (first|refine Rn.p ?_|((first|refine Rs.p ?_|with_reducible intro K hK|(refine hK _ ?_;clear hK K));try simp only[go_sem,simprocAttr,hb]))
def g21:Gr:=⟨3, [(0,1),(1,2),(0,2)]⟩
def p21:Pl:=⟨[0,1,2], [[0,2], [1], []]⟩
def d21:Dr:=⟨[(0,0),(1,2),(3,3)], [[(0,0),(1,2)], [(1,2),(3,3)], [(0,0),(2,1),(3,3)]]⟩
theorem aaM:(true=true)↔(bX g21).1=0/\bq g21 p21:=⟨fun _=>⟨by decide,⟨rfl,by decide,by decide⟩⟩,fun _=>rfl⟩
end Go.Ab
end
section
set_option maxRecDepth 10000
namespace Go.Ab
open Go.Proofs
def ky(t:It):Bool × Int × Int:=(decide (0<=t.1),t.2)
structure Alike (G G':Gr) (P P':Pl):Prop where
 n:G'.n=G.n
 need:∀x,aV G' x=aV G x
 out:∀x,(bE P' x).map (bA G')=(bE P x).map (bA G)
 o1:∀x,∀e∈bE P x,0<=e
 o2:∀x,∀e∈bE P' x,0<=e
structure FrS (f f':Fr):Prop where
 row:f'.row.map ky=f.row.map ky
 pl:f'.pl=f.pl
section
variable {G G':Gr} {P P':Pl} (hA:Alike G G' P P')
include hA
end
section
variable {G G':Gr} {P P':Pl} (hA:Alike G G' P P') (hm:aM G=true) (hm':aM G'=true)
include hA hm hm'
end
section
variable {G G':Gr} {P P':Pl} (hA:Alike G G' P P') (h:aG G P) (h':aG G' P')
include hA h h'
end
section
variable {g:Gr} {p:Pl} (h:qn g p)
include h
end
end Go.Ab
end
section
set_option maxHeartbeats 16000000
set_option maxRecDepth 20000
namespace Go.Ab
attribute [local congr] ACall.congr gd.congr Ny.congr vcOps.congr
open Go.Proofs
def lkA(rev:Bool)(row:List It)(i:Nat):Int:=((kz rev row).getD i (0,0,0)).2.2
def ab4(g:Gr)(f:Fr)(rev:Bool):Int:=match (kz rev f.row).find? (fun t=>au g f t.2.2) with
 |some t=>t.2.2
 |none=>match (List.range g.n.toNat).find? (fun x:Nat=>au g f (x:Int)) with
  |some x=>(x:Int)
  |none=> -1
theorem TR{g:Gr}{N:Int}{bs xs ys:List Int}{i:Nat} :2<=(N7 g N bs xs ys i).length/\(N7 g N bs xs ys i).length<=3:=by
 unfold N7 HS
 split<;>simp
def swP(q:Pt):Pt:=(q.2,q.1)
def swD(d:Dr):Dr:=⟨d.pts.map swP,d.ls.map fun l=>l.map swP⟩
theorem NP{b:Bool}{g:Gr}{p:Pl}(hl:g.es.length<=1000)(hr:b=true↔(bX g).1=0/\bq g p):(DQ b g p).1.pts.length<=1000/\(DQ b g p).1.ls.length<=1000/\∀l∈(DQ b g p).1.ls,l.length<=1000:=by
 by_cases h:(DQ b g p).2=0
 ·obtain⟨hR,e⟩:=HU hr h
  rw[e]
  have hn:=aB (ah hR.ok.run.1)
  refine⟨?_, ?_,fun l hm=> ?_⟩
  ·show(vi _ _ _).length<=_
   rw[Ai];omega
  ·show(tK _ _ _ _ _ _).length<=_
   rw[Fw];omega
  ·have hm:l∈tK _ _ _ _ _ _:=hm
   unfold tK at hm
   obtain⟨i,_,rfl⟩:=ada.1 hm
   have:=(TR (g:=g) (N:=(aj g p).n) (bs:=cO (aj g p)) (xs:=Aj g p false) (ys:=Aj g p true) (i:=i)).2
   omega
 ·have e:(DQ b g p).1=dz:=by
   unfold DQ at h ⊢
   split
   ·rfl
   rename_i h0
   rw[ac7 h0]at h
   split
   ·rfl
   rename_i h1
   rw[ac7 h1]at h
   exact absurd rfl h
  rw[e]
  simp[dz]
theorem xM(g:Gr)(p:Pl)(hl:g.es.length<=9223372036854775807)(hp:Qs p):Spec Tryz.prog 8 (Args [eG g,ePl p]) [] (eB true) []:=by
 have hG:=EX g p hl hp
 cases hB:BO g p with
 |true=>
  rw[hB]at hG
  (refine T.h [] [] [.t 4] Tryz.func8 rfl rfl (by kernel_rfl) fun X hX hP hC aA bB=> ?_)
  repeat' (first|refine Rn.p ?_|((first|refine Rs.p ?_|with_reducible intro K hK|(refine hK _ ?_;clear hK K)|refine aa (jY) rfl ?_|refine aa (hG) rfl ?_);try simp only[go_sem,simprocAttr]))
 |false=>
 rw[hB]at hG
 obtain⟨b1,b2,b3,b4⟩:=KX hB
 by_cases h40:40<g.es.length
 ·have hb:decide ((40:Int)<(g.es.length:Int))=true:=ac6 (by omega)
  (refine T.h [] [] [.t 4] Tryz.func8 rfl rfl (by kernel_rfl) fun X hX hP hC aA bB=> ?_)
  repeat' (first|refine Rn.p ?_|((first|refine Rs.p ?_|with_reducible intro K hK|(refine hK _ ?_;clear hK K)|refine aa (jY) rfl ?_|refine aa (hG) rfl ?_);try simp only[go_sem,simprocAttr,hb]))
 have hb:decide ((40:Int)<(g.es.length:Int))=false:=ac5 (by omega)
 have hl':g.es.length<=1000:=by omega
 obtain⟨b,hr⟩:=exB g p
 have hD:=Ka g hl' p (Qr hB) (by omega) (by omega) (fun l hl=>by have:=b4 l hl;omega) b hr
 obtain⟨s1,s2,s3⟩:=NP hl' hr
 by_cases h0:(DQ b g p).2=0
 rotate_left
 ·have hb0:decide ((DQ b g p).2=0)=false:=ac5 h0
  generalize DQ b g p=DR at*
  obtain⟨d,e⟩:=DR
  (refine T.h [] [] [.t 4] Tryz.func8 rfl rfl (by kernel_rfl) fun X hX hP hC aA bB=> ?_)
  repeat' (first|refine Rn.p ?_|((first|refine Rs.p ?_|with_reducible intro K hK|(refine hK _ ?_;clear hK K)|refine aa (jY) rfl ?_|refine aa (hG) rfl ?_|refine aa (hD) rfl ?_);try simp only[go_sem,simprocAttr,hb,hb0]))
 obtain⟨W5,hE⟩:=HU hr h0
 have hE:DQ b g p=(xS g p,0):=hE
 rw[hE]at hD s1 s2 s3
 have hz:=GF.2 (HW W5)
 obtain⟨hc,hP⟩:=VP hz
 obtain⟨q,hq⟩:=RE hP
 have NS:=NN W5 hq
 have uu:=W5.ok.run
 have tQ:=Hy hP hq
 generalize xS g p=d at*
 have hRf:=zB g d hl' s1 s2 s3
 have hCk:=fJ g d hl' s1 s2 s3
 rw[hc]at hRf hCk
 have Jm:=FA g d q hl' s1 s2 s3 hz hq
 have hT1:=DK g hl' p uu
 have H6:=DK g hl' q tQ
 rw[NS]at H6
 obtain⟨t1,t2⟩:=FB uu
 have hSa:=J9 (gr g p) (by omega) (fun l hl=>by have:=t2 l hl;omega)
 generalize gr g p=T1 at*
 (refine T.h [] [] [.t 4] Tryz.func8 rfl rfl (by kernel_rfl) fun X hX hP hC aA bB=> ?_)
 repeat' (first|refine Rn.p ?_|((first|refine Rs.p ?_|with_reducible intro K hK|(refine hK _ ?_;clear hK K)|refine aa (jY) rfl ?_|refine aa (hG) rfl ?_|refine aa (hD) rfl ?_|refine aa (hRf) rfl ?_|refine aa (hCk) rfl ?_|refine aa (Jm) rfl ?_|refine aa (hT1) rfl ?_|refine aa (H6) rfl ?_|refine aa (hSa) rfl ?_);try simp only[go_sem,simprocAttr,hb]))
end Go.Ab
end
