/- A part of the proof. -/
import Derived.Test.YtameldglfobjkaaGreatL6P23
set_option linter.unusedSimpArgs false
set_option linter.unusedVariables false
section
set_option maxHeartbeats 16000000
set_option maxRecDepth 10000
namespace Go.Ab
attribute [local congr] ACall.congr gd.congr Ny.congr vcOps.congr
open Go.Proofs
def N1(n:Int)(es:List Edge)(ord:List Int)(O:List (List Int)):List (Nat × AObj):= [(10000, .box [eN n, .ref 10001, .ref 10002, .ref 10003]),(10001, .tip 56 2 (es.map rE)),(10002, .tip 3 1 (ord.map rI)),(10003, .own 25 1 (vI O))]
def N2(n:Int)(es:List Edge)(ord:List Int)(O:List (List Int)):List (Nat × AObj):= [(10000, .box [eN n, .ref 10004, .ref 10002, .ref 10003]),(10004, .tip 56 2 (es.map rE)),(10002, .tip 3 1 (ord.map rI)),(10003, .own 25 1 (vI O))]
def iM(x:Int)(items:List It):List Edge:=(loose items).map fun v=>(v,x)
theorem Qp{x:Int}{a b:List It} :iM x (a++b)=iM x a++iM x b:=by simp[iM,bY]
theorem VJ{ls:List (List Int)}{k:Nat}{l:List Int} :(vI ls).set k [sI l]=vI (ls.set k l):=by simp[vI,aeR]
theorem Dp{items:List It} :(loose items).length<=items.length:=by
 unfold loose
 rw[adn]
 exact aeH _ _
theorem G2(n:Int)(es:List Edge)(ord:List Int)(O:List (List Int))(x:Int)(items:List It)(hl:es.length+items.length<=100000)(hO:∀v∈loose items,0<=v/\v<O.length):
 Spec Tryz.prog 101 (Args [.ptr 10000 0,eN x, .d (sT items)]) (N1 n es ord O) (.tup []) (N2 n (es++iM x items) ord (eM es.length (iM x items) O)):=by
 unfold N1 N2
 (refine T.hR [] [] [] [(10004,50)] Tryz.func101 rfl rfl (by kernel_rfl) fun X hX hP hC aA bB=> ?_)
 repeat' (first|refine Rn.p ?_|((first|refine Rs.p ?_|with_reducible intro K hK|(refine hK _ ?_;clear hK K));try simp only[go_sem,simprocAttr]))
 (refine dY hX 10000 1 10001 50 rfl rfl rfl (by first|exact .inl rfl|exact .inr rfl) (by decide) (by decide) ?_;simp only[List.set_cons_zero,List.set_cons_succ,go_sem,simprocAttr])
 refine ag (fun k:Nat=>k<=items.length) (fun k=>⟨[(0, .ptr 10000 0),(1,eN x),(8, .d (sT items)),(9,eN items.length),(10,eN k)], [(10000, .box [eN n, .ref 50, .ref 10002, .ref 10003]),(50, .tip 56 2 ((es++iM x (items.take k)).map rE)),(10002, .tip 3 1 (ord.map rI)),(10003, .own 25 1 (vI (eM es.length (iM x (items.take k)) O)))]⟩) (fun k=>items.length - k) 0 (by simp) ?_ ?_
 ·refine Le.of ?_ ?_<;>simp[go_sem,simprocAttr,iM,loose,eM]
 rintro k hk
 rcases adj k items.length with hlt|hge
 ·have hb:decide ((k:Int)<(items.length:Int))=true:=ac6 (by omega)
  have Db:items.take (k+1)=items.take k++ [items.getD k (0,0,0)]:=Dh hlt
  have hmt:=az (d:=(0,0,0)) hlt
  have Au:iM x (items.take (k+1))=iM x (items.take k)++iM x [items.getD k (0,0,0)]:=by rw[Db,Qp]
  have hvO:(items.getD k (0,0,0)).1<0->0<=(items.getD k (0,0,0)).2.1/\(items.getD k (0,0,0)).2.1<O.length:=fun h=>hO _ (by
   unfold loose
   exact ada.2 ⟨_,adI.2 ⟨hmt,ac6 h⟩,rfl⟩)
  have iF:(iM x (items.take k)).length<=k:=by
   unfold iM
   rw[adn]
   refine aej Dp ?_
   rw[adG];omega
  have hLO:=xe (m:=es.length) (N:=iM x (items.take k)) (M:=iM x [items.getD k (0,0,0)]) (O:=O)
  have Zg:(eM es.length (iM x (items.take k)) O).length=O.length:=kD
  rw[<- Au]at hLO
  generalize r8:items.getD k (0,0,0)=t at Au hvO hLO
  generalize eM es.length (iM x (items.take k)) O=O' at hLO Zg
  generalize iM x (items.take k)=N at Au iF hLO
  by_cases h0:0<=t.1
  ·have hb1:decide (0<=t.1)=true:=ac6 h0
   have he:iM x [t]= []:=by
    have:¬t.1<0:=by omega
    simp[iM,loose,this]
   rw[he]at Au hLO
   rw[ad4]at Au
   repeat' (first|refine Rn.p ?_|((first|refine Rs.p ?_|with_reducible intro K hK|(refine hK _ ?_;clear hK K));try simp only[go_sem,simprocAttr,hb,hb1,r8])|with_reducible (apply And.intro)|omega)
   refine⟨k+1,by omega, ?_,by omega⟩
   rw[hLO,Au]
   refine Le.of ?_ ?_<;>simp[go_sem,simprocAttr,hb,hb1,r8,eM]
  ·have hb1:decide (0<=t.1)=false:=ac5 h0
   have he:iM x [t]= [(t.2.1,x)]:=by
    have:t.1<0:=by omega
    simp[iM,loose,this]
   rw[he]at Au hLO
   obtain⟨TV,Ky⟩:=hvO (by omega)
   obtain⟨vn,WN⟩:∃vn:Nat,t.2.1=vn:=⟨t.2.1.toNat,by omega⟩
   have hvl:vn<O'.length:=by omega
   have Uk:=fun d=>jr hvl d
   have aa4:eM es.length (iM x (items.take (k+1))) O=O'.set vn [((es.length+N.length:Nat):Int)]:=by
    rw[hLO,WN]
    show O'.set ((vn:Int).toNat) _=_
    rw[Int.toNat_natCast]
   rw[WN]at Au
   have hrow:rI ((es.length:Int)+(N.length:Int))= [D.sc (.int .i64 ((es.length:Int)+(N.length:Int)))]:=rfl
   have fR:=VJ (ls:=O') (k:=vn) (l:= [((es.length+N.length:Nat):Int)])
   repeat' (first|(show cR _ (.region 6 _ _) _ _;(refine dY hX 10000 1 43 50 rfl rfl rfl (by first|exact .inl rfl|exact .inr rfl) (by decide) (by decide) ?_;simp only[List.set_cons_zero,List.set_cons_succ,go_sem,simprocAttr,hb,hb1,r8,WN,Uk,aer,ae1,adi]))|refine Rn.p ?_|((first|refine Rs.p ?_|with_reducible intro K hK|(refine hK _ ?_;clear hK K));try simp only[go_sem,simprocAttr,hb,hb1,r8,WN,Uk,aer,ae1,adi])|with_reducible (first|apply And.intro|refine oD (by kernel_rfl) ?_)|omega)
   refine⟨k+1,by omega, ?_,by omega⟩
   rw[aa4,Au]
   refine Le.of ?_ ?_<;>simp[go_sem,simprocAttr,hb,hb1,r8,WN,Uk,aer,ae1,adi]
   refine⟨rfl, ?_⟩
   simp only[Int.natCast_add]at fR
   exact fR
 ·have hb:decide ((k:Int)<(items.length:Int))=false:=ac5 (by omega)
  obtain rfl:k=items.length:=by omega
  have ht:items.take items.length=items:=aee
  repeat' (first|refine Rn.p ?_|((first|refine Rs.p ?_|with_reducible intro K hK|(refine hK _ ?_;clear hK K));try simp only[go_sem,simprocAttr,hb,ht]))
theorem EV(ps:List Edge)(hl:ps.length<=1000000):
 Spec Tryz.prog 92 (Args [.d (sE ps)]) [] (.ref 10000) [(10000, .tip 56 2 (ps.map rE))]:=by
 (refine T.hR [] [] [.t 2] [(10000,7)] Tryz.func92 rfl rfl (by kernel_rfl) fun X hX hP hC aA bB=> ?_)
 repeat' (first|(show cR _ .ret _ _;(try simp only[go_sem,simprocAttr]);refine dQ hX 2 7 (.tip 56 2 []) ?_ ?_ (by decide) ⟨56,2,by decide, .inr rfl⟩ ?_;(iterate 2 (focus(simp only[go_sem,simprocAttr];done)));simp only[go_sem,simprocAttr])|refine Rn.p ?_|((first|refine Rs.p ?_|with_reducible intro K hK|(refine hK _ ?_;clear hK K));try simp only[go_sem,simprocAttr])|with_reducible (first|apply And.intro|(intro h;try simp only[go_sem,simprocAttr]at h))|omega)
 exact h.symm
def pz:Pl:=⟨[], []⟩
def tI(b:Bool)(g:Gr)(p:Pl):Gr × Pl × Int:=
 if(dF b g p).2.1≠0 then(gz,pz,1) else if 64<(aj g p).n\/128<(aj g p).es.length then(gz,pz,10) else(aj g p,bK g p,0)
theorem sZ{b:Bool}{g:Gr}{p:Pl}(hr:b=true↔(bX g).1=0/\bq g p)(h:(dF b g p).2.1=0):aG g p/\dF b g p=((gC g p g.n.toNat,bu g p),(0,0)):=by
 cases b with
 |false=>simp[dF]at h
 |true=>
  have hR:dF true g p=match ox g p g.n.toNat with
   |some i=>(([], []),(3,(i:Int)))
   |none=>((gC g p g.n.toNat,(fK g p g.n.toNat).row),(0,0)):=rfl
  cases hs:ox g p g.n.toNat with
  |some i=>rw[hR,hs]at h;simp at h
  |none=>
   obtain⟨h1,h2⟩:=hr.1 rfl
   exact⟨⟨h1,h2,jR.1 hs⟩,by rw[hR,hs];rfl⟩
theorem M7{g:Gr}{p:Pl}{k:Nat} :dL g p (k+1)=dL g p k++iM (aq p k) (cB g p k):=rfl
theorem KW{g:Gr}{p:Pl}(hr:aG g p){k:Nat}(hk:k<=g.n.toNat):(dL g p k).length<=g.n.toNat/\∀e∈dL g p k,0<=e.1/\e.1<g.n:=by
 obtain⟨hc,h,hok⟩:=hr
 have hm:=ah hc
 obtain⟨h1,h2⟩:=lE hm h hk fun j hj=>hok j (by omega)
 obtain⟨hi,_⟩:=bz hm h hk fun j hj=>hok j (by omega)
 have hv:∀v∈(dL g p k).map (·.1),0<=v/\v<g.n:=fun v hv=>hi.lg v (h2 v (adR _ hv)).1
 refine⟨?_,fun e he=>hv _ (ada.2 ⟨e,he,rfl⟩)⟩
 have:=jP (adt.1 h1).1 (m:=dD g.n.toNat) fun v NT=>cE.2 (by have:=hv v NT;omega)
 rw[gY,adn]at this
 exact this
theorem EW(g:Gr)(hl:g.es.length<=1000)(p:Pl)(hp:uc p)(hp1:p.ord.length<=1000)(hp2:p.outs.length<=1000)(hp3:∀l∈p.outs,l.length<=1000)(b:Bool)(hr:b=true↔(bX g).1=0/\bq g p):
 Spec Tryz.prog 57 (Args [eG g,ePl p]) [] (.tup [eG (tI b g p).1,ePl (tI b g p).2.1,eN (tI b g p).2.2]) []:=by
 have hO:=ig g hl p hp b hr
 by_cases h0:(dF b g p).2.1=0
 rotate_left
 ·have Qq:tI b g p=(gz,pz,1):=ac9 h0
  rw[Qq]
  have hb1:decide ((dF b g p).2.1=0)=false:=ac5 h0
  (refine T.h [] [] [.c 4 24, .c 5 28, .t 6] Tryz.func57 rfl rfl (by kernel_rfl) fun X hX hP hC aA bB=> ?_)
  repeat' (first|refine Rn.p ?_|((first|refine Rs.p ?_|with_reducible intro K hK|(refine hK _ ?_;clear hK K)|refine aa (hO) rfl ?_);try simp only[go_sem,simprocAttr,hb1,gz,pz,vI,adO]))
 obtain⟨hrun,hR⟩:=sZ hr h0
 rw[hR]at hO
 simp only at hO
 have Qq:tI b g p=if 64<(aj g p).n\/128<(aj g p).es.length then(gz,pz,10) else(aj g p,bK g p,0):=by
  unfold tI;rw[ac7 (by rw[h0];simp)]
 generalize tI b g p=AR at Qq
 have hm:=ah hrun.1
 have hn:=aB hm
 have mY:=hrun.2.1
 have hle:=aI mY
 have Ax:=mY.1
 (refine T.h [55,98] [] [.c 4 24, .c 5 28, .t 6] Tryz.func57 rfl rfl (by kernel_rfl) fun X hX hP hC aA bB=> ?_)
 repeat' (first|(show cR _ (.seq (.region 5 _ _) _) _ _;(refine dY hX 38 1 31 200 rfl rfl rfl (by first|exact .inl rfl|exact .inr rfl) (by decide) (by decide) ?_;simp only[List.set_cons_zero,List.set_cons_succ,go_sem,simprocAttr]);(refine jj hX 38 3 201 (.own 25 1 []) rfl rfl rfl (by simp only[go_sem,simprocAttr]) (by decide) (by simp[go_sem,simprocAttr]) ⟨25,1,by decide, .inl rfl⟩ ?_;simp only[List.set_cons_zero,List.set_cons_succ,go_sem,simprocAttr]))|refine Rn.p ?_|((first|refine Rs.p ?_|with_reducible intro K hK|(refine hK _ ?_;clear hK K)|refine aa (hO) rfl ?_|(refine lV [(10000,31)] (EV g.es (by omega)) ?_ ?_;(focus(simp[go_sem,simprocAttr];done)))|(refine lV [(10000,35)] (EJ p.ord (by omega)) ?_ ?_;(focus(simp[go_sem,simprocAttr];done))));try simp only[go_sem,simprocAttr])|with_reducible (refine oD (by kernel_rfl) ?_))
 refine ag (fun x:Nat=>x<=p.outs.length) (fun x=>⟨[(2, .ptr 2 0),(3, .ptr 3 0),(4, .ptr 4 0),(5, .ptr 5 0),(7, .d (.sl 1 (vT (gC g p g.n.toNat)))),(8, .d (sT (bu g p))),(10, .ptr 38 0),(40, .d (.sl 1 (vI p.outs))),(41,eN p.outs.length),(42,eN x)], [(2, .box [eN g.n, .d (sE g.es)]),(3, .box [.d (sI p.ord), .d (.sl 1 (vI p.outs))]),(4, .box [eN 0, .nil 56]),(5, .box [.nil 3, .nil 25]),(38, .box [eN g.n, .ref 200, .ref 35, .ref 201]),(200, .tip 56 2 (g.es.map rE)),(35, .tip 3 1 (p.ord.map rI)),(201, .own 25 1 (vI (p.outs.take x)))]⟩) (fun x=>p.outs.length - x) 0 (by simp) ?_ ?_
 ·refine Le.of ?_ ?_<;>simp[go_sem,simprocAttr,vI]
 rintro x hx
 rcases adj x p.outs.length with hxl|MH
 ·have hb:decide ((x:Int)<(p.outs.length:Int))=true:=ac6 (by omega)
  have hv:=jr hxl
  have iF:=hp3 _ (az (d:= []) hxl)
  have Db:vI (p.outs.take (x+1))=vI (p.outs.take x)++ [[sI (p.outs.getD x [])]]:=by
   unfold vI
   rw[uS (d:= []) hxl]
  have htl:(p.outs.take x).length=x:=by rw[adG];omega
  have Zh:=qL (p.outs.getD x []) (by omega)
  generalize p.outs.getD x []=l at hv iF Db Zh
  repeat' (first|(show cR _ (.region 9 _ _) _ _;(refine dY hX 38 3 55 201 rfl rfl rfl (by first|exact .inl rfl|exact .inr rfl) (by decide) (by decide) ?_;simp only[List.set_cons_zero,List.set_cons_succ,go_sem,simprocAttr,hb,hv,htl]))|refine Rn.p ?_|((first|refine Rs.p ?_|with_reducible intro K hK|(refine hK _ ?_;clear hK K)|refine aa (Zh) rfl ?_);try simp only[go_sem,simprocAttr,hb,hv,htl])|with_reducible (first|apply And.intro|refine oD (by kernel_rfl) ?_)|omega)
  refine⟨x+1,by omega, ?_,by omega⟩
  rw[Db]
  refine Le.of ?_ ?_<;>simp[go_sem,simprocAttr,hb,hv,htl]
 have hb:decide ((x:Int)<(p.outs.length:Int))=false:=ac5 (by omega)
 obtain rfl:x=p.outs.length:=by omega
 repeat' (first|refine Rn.p ?_|((first|refine Rs.p ?_|with_reducible intro K hK|(refine hK _ ?_;clear hK K));try simp only[go_sem,simprocAttr,hb,aee]))
 clear hb hx
 refine ag (fun k:Nat=>k<=g.n.toNat) (fun k=>⟨[(2, .ptr 2 0),(4, .ptr 4 0),(5, .ptr 5 0),(7, .d (.sl 1 (vT (gC g p g.n.toNat)))),(8, .d (sT (bu g p))),(10, .ptr 38 0),(61, .d (sI p.ord)),(62,eN p.ord.length),(63,eN k)], [(2, .box [eN g.n, .d (sE g.es)]),(4, .box [eN 0, .nil 56]),(5, .box [.nil 3, .nil 25]),(38, .box [eN g.n, .ref 200, .ref 35, .ref 201]),(200, .tip 56 2 ((g.es++dL g p k).map rE)),(35, .tip 3 1 (p.ord.map rI)),(201, .own 25 1 (vI (eM g.es.length (dL g p k) p.outs)))]⟩) (fun k=>g.n.toNat - k) 0 (by simp) ?_ ?_
 ·refine Le.of ?_ ?_<;>simp[go_sem,simprocAttr,dL,eM]
 rintro k hk
 obtain⟨hnl,RR⟩:=KW hrun hk
 have Zg:(eM g.es.length (dL g p k) p.outs).length=p.outs.length:=kD
 rcases adj k g.n.toNat with cM|RH
 ·have hb:decide ((k:Int)<(p.ord.length:Int))=true:=ac6 (by omega)
  have Yd:=aD mY cM
  have WL:=wT mY (k:=g.n.toNat) (adg _) cM
  have pE:p.ord.getD k 0=aq p k:=rfl
  have dw:=M7 (g:=g) (p:=p) (k:=k)
  obtain⟨G3,aa5⟩:=KW hrun (k:=k+1) (by omega)
  have yJ:(cB g p k).length<=(fK g p k).row.length:=by unfold cB aC;simp;omega
  obtain⟨_,_,hrl⟩:=bz hm mY (k:=k) (by omega) fun j hj=>hrun.2.2 j (by omega)
  have hmul:k*(g.es.length+1)<=64*129:=afQ (by omega) (by omega)
  have hLO:eM g.es.length (dL g p (k+1)) p.outs=eM (g.es++dL g p k).length (iM (aq p k) (cB g p k)) (eM g.es.length (dL g p k) p.outs):=by
   rw[dw,xe,adi]
  have ES:=G2 g.n (g.es++dL g p k) p.ord (eM g.es.length (dL g p k) p.outs) (aq p k) (cB g p k) (by rw[adi];omega) (fun v hv=>by
   have:=aa5 (v,aq p k) (by rw[dw];exact adZ _ (ada.2 ⟨v,hv,rfl⟩))
   simp only at this
   omega)
  rw[<- hLO]at ES
  have Ia:g.es++dL g p k++iM (aq p k) (cB g p k)=g.es++dL g p (k+1):=by rw[dw,adN]
  rw[Ia]at ES
  obtain⟨x,hx⟩:∃x:Nat,aq p k=x:=⟨(aq p k).toNat,by omega⟩
  rw[hx]at pE WL ES Yd
  rw[Int.toNat_natCast]at WL
  have hel:=qW (g:=g) (p:=p) (k:=g.n.toNat)
  have WQ:x<(gC g p g.n.toNat).length:=by omega
  have Ie:=wu WQ
  rw[WL]at Ie
  have hvl:(vT (gC g p g.n.toNat)).length=(gC g p g.n.toNat).length:=vT_length
  repeat' (first|(show cR _ (.region 14 _ _) _ _;(refine dY hX 38 1 202 200 rfl rfl rfl (by first|exact .inl rfl|exact .inr rfl) (by decide) (by decide) ?_;simp only[List.set_cons_zero,List.set_cons_succ,go_sem,simprocAttr,hb,pE,Ie,hvl,N1,N2]))|refine Rn.p ?_|((first|refine Rs.p ?_|with_reducible intro K hK|(refine hK _ ?_;clear hK K)|(refine aS [(10000,38),(10001,200),(10002,35),(10003,201),(10004,202)] (ES) ?_ ?_;(focus(simp[go_sem,simprocAttr,hb,pE,Ie,hvl,N1,N2];done))));try simp only[go_sem,simprocAttr,hb,pE,Ie,hvl,N1,N2])|with_reducible (apply And.intro)|omega)
  refine⟨k+1,by omega, ?_,by omega⟩
  refine Le.of ?_ ?_<;>simp[go_sem,simprocAttr,hb,pE,Ie,hvl,N1,N2]
 have hb:decide ((k:Int)<(p.ord.length:Int))=false:=ac5 (by omega)
 obtain rfl:k=g.n.toNat:=by omega
 by_cases h1:1<(bu g p).length
 ·have hb1:decide ((1:Int)<((bu g p).length:Int))=true:=ac6 (by omega)
  obtain⟨_,_,hrl⟩:=bz hm mY (k:=g.n.toNat) (adg _) hrun.2.2
  have hmul:g.n.toNat*(g.es.length+1)<=64*129:=afQ (by omega) (by omega)
  have hrl:(bu g p).length<=g.n.toNat*(g.es.length+1):=hrl
  obtain⟨vt,Jl⟩:=iB hrun
  have G3:newL g p=iM g.n (bu g p):=ac9 h1
  have ES:=G2 (g.n+1) (g.es++dL g p g.n.toNat) (p.ord++ [g.n]) (eM g.es.length (dL g p g.n.toNat) p.outs++ [[]]) g.n (bu g p) (by rw[adi];omega) (fun v hv=>by
   have:=(Jl (v,g.n) (by unfold bg;rw[G3];exact adZ _ (ada.2 ⟨v,hv,rfl⟩))).1
   simp only at this
   rw[adi,kD];omega)
  have hq:eM (g.es++dL g p g.n.toNat).length (iM g.n (bu g p)) (eM g.es.length (dL g p g.n.toNat) p.outs++ [[]])=(bK g p).outs:=by
   show _=eM g.es.length (bg g p) (if 1<(bu g p).length then p.outs++ [[]] else p.outs)
   have Au:=Dn (m:=g.es.length) (N:=dL g p g.n.toNat) (O:=p.outs) (fun e he=>by
    have:=RR e he
    omega)
   rw[ac9 h1,bg,G3,xe,adi,Au]
  have he:g.es++dL g p g.n.toNat++iM g.n (bu g p)=(aj g p).es:=by
   show _=g.es++bg g p
   rw[bg,G3,adN]
  have ho:p.ord++ [g.n]=(bK g p).ord:=(ac9 h1).symm
  have hg:g.n+1=(aj g p).n:=(ac9 h1).symm
  have hvs:vI (eM g.es.length (dL g p g.n.toNat) p.outs)++ [[D.sl 1 []]]=vI (eM g.es.length (dL g p g.n.toNat) p.outs++ [[]]):=by simp[vI,sI]
  have hos:p.ord.map rI++ [[D.sc (.int .i64 g.n)]]=(p.ord++ [g.n]).map rI:=by simp[rI]
  rw[hq,he]at ES
  have y6:(aj g p).es.length<=1000:=by
   rw[<- he,adi,adi]
   have:(iM g.n (bu g p)).length<=g.n.toNat:=by
    have:=jP (adt.1 (by rw[bg,ads]at vt;exact vt)).2.1 (m:=dD g.n.toNat) fun v NT=>cE.2 (by
     obtain⟨e,he,rfl⟩:=ada.1 NT
     have:=(Jl e (adZ _ he)).1
     omega)
    rw[gY,adn,G3]at this
    exact this
   omega
  have M8:AR=if 64<(aj g p).n\/128<(aj g p).es.length then(gz,pz,10) else(aj g p,bK g p,0):=Qq
  clear Qq
  have hql:(bK g p).outs.length=(bK g p).outs.length:=rfl
  have hpp:bK g p=⟨(bK g p).ord,(bK g p).outs⟩:=rfl
  generalize aj g p=G at he hg ES M8 y6
  rw[ho]at ES hos
  generalize bK g p=Q at hq ho ES M8 hos
  by_cases h2:64<G.n
  ·have hb2:decide (64<G.n)=true:=ac6 h2
   rw[ac9 (.inl h2)]at M8
   subst M8
   repeat' (first|refine Rn.p ?_|((first|refine Rs.p ?_|with_reducible intro K hK|(refine hK _ ?_;clear hK K)|(refine aS [(10000,38),(10001,200),(10002,87),(10003,98),(10004,203)] (ES) ?_ ?_;(focus(simp[go_sem,simprocAttr,hb,hb1,hb2,N1,N2,hvs,hos,hg,gz,pz,vI,adO];done))));try simp only[go_sem,simprocAttr,hb,hb1,hb2,N1,N2,hvs,hos,hg,gz,pz,vI,adO])|with_reducible (first|apply And.intro|refine oD (by kernel_rfl) ?_)|omega)
  ·have hb2:decide (64<G.n)=false:=ac5 h2
   by_cases h3:128<G.es.length
   ·have hb3:decide (128<(G.es.length:Int))=true:=ac6 (by omega)
    rw[ac9 (.inr h3)]at M8
    subst M8
    repeat' (first|refine Rn.p ?_|((first|refine Rs.p ?_|with_reducible intro K hK|(refine hK _ ?_;clear hK K)|(refine aS [(10000,38),(10001,200),(10002,87),(10003,98),(10004,203)] (ES) ?_ ?_;(focus(simp[go_sem,simprocAttr,hb,hb1,hb2,hb3,N1,N2,hvs,hos,hg,gz,pz];done))));try simp only[go_sem,simprocAttr,hb,hb1,hb2,hb3,N1,N2,hvs,hos,hg,gz,pz])|with_reducible (first|apply And.intro|refine oD (by kernel_rfl) ?_)|omega)
    all_goals rfl
   ·have hb3:decide (128<(G.es.length:Int))=false:=ac5 (by omega)
    rw[ac7 (by rintro(h|h);exact h2 h;exact h3 h)]at M8
    subst M8
    repeat' (first|refine Rn.p ?_|((first|refine Rs.p ?_|with_reducible intro K hK|(refine hK _ ?_;clear hK K)|(refine aS [(10000,38),(10001,200),(10002,87),(10003,98),(10004,203)] (ES) ?_ ?_;(focus(simp[go_sem,simprocAttr,hb,hb1,hb2,hb3,N1,N2,hvs,hos,hg];done))));try simp only[go_sem,simprocAttr,hb,hb1,hb2,hb3,N1,N2,hvs,hos,hg])|with_reducible (first|apply And.intro|refine oD (by kernel_rfl) ?_)|omega)
 ·have hb1:decide ((1:Int)<((bu g p).length:Int))=false:=ac5 (by omega)
  have G3:newL g p= []:=ac7 h1
  have he:g.es++dL g p g.n.toNat=(aj g p).es:=by
   show _=g.es++bg g p
   rw[bg,G3,ad4]
  have hq:eM g.es.length (dL g p g.n.toNat) p.outs=(bK g p).outs:=by
   show _=eM g.es.length (bg g p) (if 1<(bu g p).length then p.outs++ [[]] else p.outs)
   rw[ac7 h1,bg,G3,ad4]
  have ho:p.ord=(bK g p).ord:=(ac7 h1).symm
  have hg:g.n=(aj g p).n:=(ac7 h1).symm
  have hml:(g.es++dL g p g.n.toNat).map rE=(aj g p).es.map rE:=by rw[he]
  have aa6:(aj g p).es.length=g.es.length+(dL g p g.n.toNat).length:=by rw[<- he,adi]
  have YY:p.ord.map rI=(bK g p).ord.map rI:=by rw[<- ho]
  generalize aj g p=G at he hg Qq hml aa6
  generalize bK g p=Q at hq ho Qq YY
  by_cases h2:64<G.n
  ·omega
  ·have hb2:decide (64<G.n)=false:=ac5 h2
   by_cases h3:128<G.es.length
   ·have hb3:decide (128<(G.es.length:Int))=true:=ac6 (by omega)
    rw[ac9 (.inr h3)]at Qq
    subst Qq
    rw[he]
    repeat' (first|refine Rn.p ?_|((first|refine Rs.p ?_|with_reducible intro K hK|(refine hK _ ?_;clear hK K));try simp only[go_sem,simprocAttr,hb,hb1,hb2,hb3,hg,gz,pz])|with_reducible (first|apply And.intro|(intro h;try simp only[go_sem,simprocAttr,hb,hb1,hb2,hb3,hg,gz,pz]at h))|omega)
    all_goals rfl
   ·have hb3:decide (128<(G.es.length:Int))=false:=ac5 (by omega)
    rw[ac7 (by rintro(h|h);exact h2 h;exact h3 h)]at Qq
    subst Qq
    rw[he,hq]
    have aa7:=YY.symm
    have hg2:=hg.symm
    rw[hg2]at hb2
    repeat' (first|refine Rn.p ?_|((first|refine Rs.p ?_|with_reducible intro K hK|(refine hK _ ?_;clear hK K));try simp only[go_sem,simprocAttr,hb,hb1,hb2,hb3,hg2,aa7])|with_reducible (refine oD (by kernel_rfl) ?_))
def acN(p:Pl)(x:Gr)(k:Nat):List (List Int):=(List.range k).map fun v=>if 0<(p.outs.getD v []).length then p.outs.getD v [] else b8 x (v:Int)
theorem BN{g:Gr}{p:Pl}(hr:aG g p):∀t∈bu g p,t.1<0:=by
 obtain⟨hc,h,hok⟩:=hr
 have hm:=ah hc
 have hn:=aB hm
 obtain⟨hi,dI,_⟩:=bz hm h (k:=g.n.toNat) (adg _) hok
 intro t ht
 refine adl fun h0=> ?_
 rcases hi.it t ht with ⟨h1,_⟩|⟨h1,h2,_,h4⟩
 ·omega
 ·have Vw:=(cU hm (k:=t.1.toNat) (by omega)).2
  rw[<- h4]at Vw
  refine hi.head t ht h1 (jQ hi.tofL ?_ Vw)
  rw[dI,adG,aI h];omega
def BO(g:Gr)(p:Pl):Bool:=decide (200<g.es.length)||decide (100<p.ord.length)||decide (100<p.outs.length)||p.outs.any fun l=>decide (200<l.length)
theorem KX{g:Gr}{p:Pl}(h:BO g p=false):g.es.length<=200/\p.ord.length<=100/\p.outs.length<=100/\∀l∈p.outs,l.length<=200:=by
 simp only[BO,aep,adL,adU,adb]at h
 obtain⟨⟨⟨h1,h2⟩,h3⟩,h4⟩:=h
 exact⟨by omega,by omega,by omega,fun l hl=>by have:=h4 l hl;omega⟩
theorem Qr{g:Gr}{p:Pl}(h:BO g p=false):uc p:=by
 obtain⟨_,h1,h2,h3⟩:=KX h
 exact⟨by omega,by omega,fun l hl=>by have:=h3 l hl;omega⟩
structure Qs (p:Pl):Prop where
 ord:p.ord.length<=9223372036854775807
 outs:p.outs.length<=9223372036854775807
 each:∀l∈p.outs,l.length<=9223372036854775807
theorem EX(g:Gr)(p:Pl)(hl:g.es.length<=9223372036854775807)(hp:Qs p):Spec Tryz.prog 19 (Args [eG g,ePl p]) [] (eB (BO g p)) []:=by
 have ho:=hp.ord
 have hu:=hp.outs
 (refine T.h [] [] [.t 4] Tryz.func19 rfl rfl (by kernel_rfl) fun X hX hP hC aA bB=> ?_)
 generalize hB:BO g p=B
 by_cases h1:200<g.es.length
 ·have hb1:decide (200<(g.es.length:Int))=true:=ac6 (by omega)
  have:B=true:=by rw[<- hB,BO,ac6 h1];rfl
  subst this
  repeat' (first|refine Rn.p ?_|((first|refine Rs.p ?_|with_reducible intro K hK|(refine hK _ ?_;clear hK K));try simp only[go_sem,simprocAttr,hb1]))
 have hb1:decide (200<(g.es.length:Int))=false:=ac5 (by omega)
 by_cases h2:100<p.ord.length
 ·have hb2:decide (100<(p.ord.length:Int))=true:=ac6 (by omega)
  have:B=true:=by rw[<- hB,BO,ac6 h2];simp
  subst this
  repeat' (first|refine Rn.p ?_|((first|refine Rs.p ?_|with_reducible intro K hK|(refine hK _ ?_;clear hK K));try simp only[go_sem,simprocAttr,hb1,hb2]))
 have hb2:decide (100<(p.ord.length:Int))=false:=ac5 (by omega)
 by_cases h3:100<p.outs.length
 ·have hb3:decide (100<(p.outs.length:Int))=true:=ac6 (by omega)
  have:B=true:=by rw[<- hB,BO,ac6 h3];simp
  subst this
  repeat' (first|refine Rn.p ?_|((first|refine Rs.p ?_|with_reducible intro K hK|(refine hK _ ?_;clear hK K));try simp only[go_sem,simprocAttr,hb1,hb2,hb3]))
 have hb3:decide (100<(p.outs.length:Int))=false:=ac5 (by omega)
 have CI:B=p.outs.any fun l=>decide (200<l.length):=by rw[<- hB,BO,ac5 h1,ac5 h2,ac5 h3];simp
 clear hB
 repeat' (first|refine Rn.p ?_|((first|refine Rs.p ?_|with_reducible intro K hK|(refine hK _ ?_;clear hK K));try simp only[go_sem,simprocAttr,hb1,hb2,hb3]))
 refine ag (fun k:Nat=>k<=p.outs.length/\∀j,j<k->(p.outs.getD j []).length<=200) (fun k=>⟨[(24, .d (.sl 1 (vI p.outs))),(25,eN p.outs.length),(26,eN k)], []⟩) (fun k=>p.outs.length - k) 0 (by simp) ?_ ?_
 ·(refine Le.of ?_ ?_<;>simp[go_sem,simprocAttr])
 rintro k ⟨hk,hg⟩
 rcases adj k p.outs.length with cM|RH
 ·have hb:decide ((k:Int)<(p.outs.length:Int))=true:=ac6 (by omega)
  have hv:=jr cM
  have hm:=az (d:= []) cM
  have iF:=hp.each _ hm
  by_cases h4:200<(p.outs.getD k []).length
  ·have hb4:decide (200<((p.outs.getD k []).length:Int))=true:=ac6 (by omega)
   have:B=true:=by rw[CI,adQ];exact⟨_,hm,ac6 h4⟩
   subst this
   repeat' (first|refine Rn.p ?_|((first|refine Rs.p ?_|with_reducible intro K hK|(refine hK _ ?_;clear hK K));try simp only[go_sem,simprocAttr,hb,hv,hb4])|with_reducible (apply And.intro)|omega)
  ·have hb4:decide (200<((p.outs.getD k []).length:Int))=false:=ac5 (by omega)
   repeat' (first|refine Rn.p ?_|((first|refine Rs.p ?_|with_reducible intro K hK|(refine hK _ ?_;clear hK K));try simp only[go_sem,simprocAttr,hb,hv,hb4])|with_reducible (apply And.intro)|omega)
   refine⟨k+1,⟨by omega,fun j hj=> ?_⟩, ?_,by omega⟩
   ·by_cases e:j=k
    ·subst e;omega
    ·exact hg j (by omega)
   ·(refine Le.of ?_ ?_<;>simp[go_sem,simprocAttr,hb,hv,hb4])
 ·have hb:decide ((k:Int)<(p.outs.length:Int))=false:=ac5 (by omega)
  have:B=false:=by
   rw[CI,adU]
   intro l hl
   obtain⟨j,hj,rfl⟩:=adr.1 hl
   have:=hg j (by omega)
   rw[aas,acF hj,Option.getD_some]at this
   simp;omega
  subst this
  repeat' (first|refine Rn.p ?_|((first|refine Rs.p ?_|with_reducible intro K hK|(refine hK _ ?_;clear hK K));try simp only[go_sem,simprocAttr,hb]))
def q8(g:Gr):Bool:=decide ((bX g).1=0)&&decide ((bZ (·.1) g).length=1)
theorem u5(g:Gr)(hl:g.es.length<=1000):Spec Tryz.prog 39 (Args [eG g]) [] (eB (q8 g)) []:=by
 by_cases hc:(bX g).1=0
 ·have hm:=ah hc
  have hb1:decide ((bX g).1=0)=true:=ac6 hc
  have hI:q8 g=decide (((bZ (·.1) g).length:Int)=1):=by
   unfold q8;rw[hb1,aeo,decide_eq_decide];omega
  rw[hI]
  generalize Ct:bZ (·.1) g=bl
  have hS:=IC g hm
  rw[Ct]at hS
  (refine T.h [] [] [.t 2] Tryz.func39 rfl rfl (by kernel_rfl) fun X hX hP hC aA bB=> ?_)
  repeat' (first|refine Rn.p ?_|((first|refine Rs.p ?_|with_reducible intro K hK|(refine hK _ ?_;clear hK K)|refine aa (iE g hl) rfl ?_|refine aa (sx g hm) rfl ?_|refine aa (hS) rfl ?_);try simp only[go_sem,simprocAttr,hb1]))
 ·have hb1:decide ((bX g).1=0)=false:=ac5 hc
  have hI:q8 g=false:=by unfold q8;rw[hb1];rfl
  rw[hI]
  (refine T.h [] [] [.t 2] Tryz.func39 rfl rfl (by kernel_rfl) fun X hX hP hC aA bB=> ?_)
  repeat' (first|refine Rn.p ?_|((first|refine Rs.p ?_|with_reducible intro K hK|(refine hK _ ?_;clear hK K)|refine aa (iE g hl) rfl ?_);try simp only[go_sem,simprocAttr,hb1]))
def g16:Gr:=⟨3, [(0,1),(0,2)]⟩
def p16:Pl:=⟨[0,1,2], [[0,1], [], []]⟩
def x16:Gr:=⟨4, [(0,1),(0,2),(1,3),(2,3)]⟩
def q16:Pl:=⟨[0,1,2,3], [[0,1], [2], [3], []]⟩
def upB(l:List Int)(k:Nat):Bool:=(List.range k).all fun i=>decide (l.getD i 0=(i:Int))
def SY(g:Gr)(names order:List Int)(k:Nat):List Edge:=(List.range k).map fun i=>(names.getD (g.es.getD (order.getD i 0).toNat (0,0)).1.toNat 0,names.getD (g.es.getD (order.getD i 0).toNat (0,0)).2.toNat 0)
def kH(g:Gr)(names order:List Int):Gr:=⟨g.n,SY g names order order.length⟩
theorem G4{g:Gr}{names order:List Int}{k:Nat} :(SY g names order k).length=k:=by simp[SY]
def Yh(g:Gr)(names order:List Int):Bool:=aM g&&ql names g.n&&ql order g.es.length
def acO(g:Gr)(names order:List Int):Gr:=if Yh g names order then kH g names order else⟨0, []⟩
end Go.Ab
end
section
namespace Go.Ab
def Ed(g:Gr)(a b:Int):Prop:=∃i,i<g.es.length/\tl g i=a/\hd g i=b
def Zi(g:Gr)(l:List Int):Prop:=∀i,i<l.length->Ed g (l.getD i 0) (l.getD ((i+1) % l.length) 0)
def Qt(g:Gr)(way:List Int)(at_:Int):Prop:=∀p,p<way.length->Ed g ((way++ [at_]).getD (p+1) 0) (way.getD p 0)
theorem yo{l:List Int}{a:Int} :(l++ [a]).getD l.length 0=a:=by
 rw[aas,adw (adg _)];simp
theorem BP{g:Gr}(hm:aM g=true):∀(f:Nat) (way:List Int) (a:Nat),a<g.n.toNat->(a:Int)∉aZ g->Qt g way a->left g way<=f->
 Qt g (pK g (eS g (aZ g)) f way a).1 (pK g (eS g (aZ g)) f way a).2/\0<=(pK g (eS g (aZ g)) f way a).2/\(pK g (eS g (aZ g)) f way a).2∈(pK g (eS g (aZ g)) f way a).1
 |f,way,a,ha,hn,hc,hl=>by
  by_cases hmem:(a:Int)∈way
  ·rw[nZ (.inr hmem)]
   exact⟨hc,by simp only;omega,hmem⟩
  ·have hla:=lX ha hmem
   cases f with
   |zero=>omega
   |succ f=>
    obtain⟨⟨i,hi,VK,htl,RR⟩,_⟩:=Ba hm (Vl hm ha hn)
    have htr:=aT hm hi
    rw[htl]at htr
    obtain⟨b,j9⟩:∃b:Nat,mU g (eS g (aZ g)) a=b:=⟨(mU g (eS g (aZ g)) a).toNat,by omega⟩
    rw[j9]at RR htr htl
    have e1:pK g (eS g (aZ g)) (f+1) way a=pK g (eS g (aZ g)) f (way++ [(a:Int)]) b:=by
     simp only[pK];rw[ac7 (by intro h;rcases h with h|h;omega;exact hmem h),j9]
    rw[e1]
    refine BP hm f (way++ [(a:Int)]) b (by omega) RR ?_ (by omega)
    intro p hp
    rw[adi,List.length_singleton]at hp
    by_cases dI:p<way.length
    ·have:=hc p dI
     rw[qR (by simp;omega),qR dI]
     exact this
    ·have:p=way.length:=by omega
     subst this
     have e2:=yo (l:=way++ [(a:Int)]) (a:=(b:Int))
     rw[adi,List.length_singleton]at e2
     rw[e2,yo]
     exact⟨i,hi,htl,VK⟩
theorem getD_drop{l:List Int}{k p:Nat} :(l.drop k).getD p 0=l.getD (k+p) 0:=by
 rw[aas,ad3, <- List.getD_eq_getElem?_getD]
theorem Zi.Su{g:Gr}{l:List Int}(h:∀p,p<l.length->Ed g (l.getD ((p+1) % l.length) 0) (l.getD p 0))(h0:0<l.length):Zi g (qi l.reverse):=by
 have Zb:0<l.reverse.length:=by simpa using h0
 obtain⟨k,Ao,hk2,_⟩:=fS (lZ Zb)
 rw[aeP]at hk2
 have e1:qi l.reverse=l.reverse.drop k++l.reverse.take k:=by simp only[qi,Ao,Int.toNat_natCast]
 have hlen:(qi l.reverse).length=l.length:=by rw[e1];simp;omega
 have hg:∀i,i<l.length->(qi l.reverse).getD i 0=l.getD (l.length - 1 - (i+k) % l.length) 0:=by
  intro i hi
  rw[e1,aas]
  by_cases hik:i<l.length - k
  ·rw[adx (by simp;omega),ad3,afa (by omega),aeB (by omega), <- List.getD_eq_getElem?_getD]
   congr 1;omega
  ·rw[adw (by simp;omega),aeC,aeP,adD,ac9 (by omega),afa (by omega), <- List.getD_eq_getElem?_getD]
   have:(i+k) % l.length=i+k - l.length:=by rw[Nat.mod_eq_sub_mod (by omega),aeB (by omega)]
   rw[this];congr 1;omega
 intro i hi
 rw[hlen]at hi ⊢
 rw[hg i hi,hg _ (aha _ h0)]
 have hmm:((i+1) % l.length+k) % l.length=((i+k) % l.length+1) % l.length:=by
  rw[Nat.mod_add_mod,Nat.mod_add_mod];congr 1;omega
 rw[hmm]
 have hj:=aha (i+k) h0
 generalize (i+k) % l.length=j at hj ⊢
 by_cases Qu:j+1<l.length
 ·rw[aeB Qu]
  have:=h (l.length - 1 - (j+1)) (by omega)
  rw[aeB (by omega),show l.length - 1 - (j+1)+1=l.length - 1 - j from by omega]at this
  exact this
 ·have:j+1=l.length:=by omega
  rw[this,ahf]
  have:=h (l.length - 1) (by omega)
  rw[show l.length - 1+1=l.length from by omega,ahf]at this
  rw[show l.length - 1 - j=0 from by omega]
  exact this
def aa8(g:Gr):Prop:=∃r:Int->Nat,∀i,i<g.es.length->r (tl g i)<r (hd g i)
theorem zT{g:Gr}(hm:aM g=true):KI g=true↔aa8 g:=by
 constructor
 ·intro h
  refine⟨fun v=>((GH g.n.toNat (aZ g) (aZ g).length).getD v.toNat 0).toNat,fun i hi=> ?_⟩
  have h1:=P6 (MO hm h) hi
  have h2:=Bp (n:=g.n.toNat) (l:=aZ g) (k:=(aZ g).length) (y:=(tl g i).toNat)
  simp only;omega
 ·rintro⟨r,hr⟩
  cases h:KI g with
  |true=>rfl
  |false=>
   exfalso
   obtain⟨y,hy,hn⟩:=KK hm h
   have key:∀(p:Nat) (y:Nat),y<g.n.toNat->(y:Int)∉aZ g->r y=p->False:=by
    intro p
    induction p using Nat.strongRecOn with
    |_ p ih=>
     intro y hy hn hp
     obtain⟨t,i,hi,h1,rfl,h2⟩:=Vl hm hy hn
     have htr:=aT hm hi
     have hlt:=hr i hi
     rw[h1,hp]at hlt
     have e:((tl g i).toNat:Int)=tl g i:=by omega
     exact ih (r (tl g i)) hlt (tl g i).toNat (by omega) (by rw[e];exact h2) (by rw[e])
   exact key _ y hy hn rfl
theorem EY{g:Gr}(hm:aM g=true)(h:KI g=true):nW g= []:=by
 have hall:=(cV.1 (KJ hm h)).2
 have hn:=aB hm
 rcases start_eq hm with ⟨h1,h2⟩|⟨a,ha,h1,h2,h3⟩
 ·have:nV g=([], -1):=by
   unfold nV;rw[h1];exact nZ (.inl (by omega)) _
  simp only[nW,this]
  rw[ac9 (by omega)]
 ·exact absurd (hall a (cE.2 (by omega))) h3
theorem Qv{g:Gr}(hm:aM g=true)(h:KI g=false):0<(nW g).length/\Zi g (nW g):=by
 obtain⟨y,hy,hny⟩:=KK hm h
 have hn:=aB hm
 rcases start_eq hm with ⟨h1,h2⟩|⟨a,ha,h1,h2,h3⟩
 ·exfalso
  rcases jK (f:=fun n:Int=>decide (0<n)) (l:=eS g (aZ g)) 0 with ⟨_,h4⟩|⟨k,h4,_⟩
  ·have h5:=(x5 hm hy).2 hny
   have h6:=h4 ((eS g (aZ g)).getD y 0) (by rw[aas,pH hy];exact adM (pH hy))
   rw[qM hy]at h6
   exact absurd h5 (of_decide_eq_false h6)
  ·omega
 ·obtain⟨h4,h5,h6⟩:=BP hm g.n.toNat [] a ha h3 (fun p hp=>by simp at hp) Er
  have hw:nV g=pK g (eS g (aZ g)) g.n.toNat [] a:=by unfold nV;rw[h1]
  rw[<- hw]at h4 h5 h6
  obtain⟨k,Ao,hk2,WH⟩:=fS h6
  have hc:nW g=qi ((nV g).1.drop k).reverse:=by
   simp only[nW]
   rw[ac7 (by omega),Ao,Int.toNat_natCast]
  have hlen:((nV g).1.drop k).length=(nV g).1.length - k:=by simp
  have h0:0<((nV g).1.drop k).length:=by omega
  refine⟨?_, ?_⟩
  ·rw[hc]
   simp only[qi,adi,aeC,adG,aeP]
   omega
  ·rw[hc]
   refine Zi.Su (fun p hp=> ?_) h0
   rw[hlen]at hp ⊢
   have h7:=h4 (k+p) (by omega)
   rw[getD_drop (p:=p)]
   by_cases Qu:p+1<(nV g).1.length - k
   ·rw[aeB Qu,getD_drop]
    rw[qR (by omega)]at h7
    exact h7
   ·have:p+1=(nV g).1.length - k:=by omega
    rw[this,ahf,getD_drop,Nat.add_zero,WH]
    rw[show k+p+1=(nV g).1.length from by omega,yo]at h7
    exact h7
def nm(names:List Int)(v:Int):Int:=names.getD v.toNat 0
structure mZ (g:Gr) (names order:List Int):Prop where
 may:aM g=true
 VL:ql names g.n=true
 ord:ql order (g.es.length:Int)=true
section
variable {g:Gr} {names order:List Int} (h:mZ g names order)
include h
theorem mZ.len:(kH g names order).es.length=g.es.length:=by
 have:=(cV.1 h.ord).1
 simp only[kH,G4];omega
theorem mZ.nP{i:Nat}(hi:i<g.es.length):∃j,j<g.es.length/\order.getD i 0=(j:Int)/\(kH g names order).es.getD i (0,0)=(nm names (tl g j),nm names (hd g j)):=by
 have Ax:=(cV.1 h.ord).1
 have:=Bo h.ord _ (l8 (l:=order) (m:=i) (by omega))
 refine⟨(order.getD i 0).toNat,by omega,by omega, ?_⟩
 simp only[kH,SY,nm,tl,hd]
 rw[aas,adm,adp (by omega)]
 rfl
theorem mZ.back{j:Nat}(hj:j<g.es.length):∃i,i<g.es.length/\order.getD i 0=(j:Int)/\(kH g names order).es.getD i (0,0)=(nm names (tl g j),nm names (hd g j)):=by
 obtain⟨Ax,hall⟩:=cV.1 h.ord
 obtain⟨i,hi,hil,he⟩:=fS (hall (j:Int) (cE.2 (by omega)))
 obtain⟨j',_,h2,h3⟩:=h.nP (i:=i) (by omega)
 have:j'=j:=by omega
 subst this
 exact⟨i,by omega,he,h3⟩
theorem mZ.inj{a b:Int}(ha:0<=a/\a<g.n)(hb:0<=b/\b<g.n)(e:nm names a=nm names b):a=b:=by
 have hnl:=(cV.1 h.VL).1
 have:=pR h.VL (i:=a.toNat) (j:=b.toNat) (by omega) (by omega) e
 omega
theorem mZ.range{a:Int}(ha:0<=a/\a<g.n):0<=nm names a/\nm names a<g.n:=by
 have hnl:=(cV.1 h.VL).1
 exact Bo h.VL _ (l8 (by omega))
theorem mZ.inv{a:Int}(ha:0<=a/\a<g.n):jg names (nm names a)=a:=by
 have hnl:=(cV.1 h.VL).1
 obtain⟨k,hk,cM,he⟩:=fS (l8 (l:=names) (m:=a.toNat) (by omega))
 have h2:=pR h.VL cM (j:=a.toNat) (by omega) he
 have h3:jg names (nm names a)=k:=hk
 omega
theorem mZ.of{v:Int}(hv:0<=v/\v<g.n):∃a,(0<=a/\a<g.n)/\nm names a=v:=by
 obtain⟨hnl,hall⟩:=cV.1 h.VL
 obtain⟨k,hk,cM,he⟩:=fS (hall v (cE.2 (by omega)))
 exact⟨k,by omega,he⟩
theorem mZ.may':aM (kH g names order)=true:=by
 have hn:=aB h.may
 have hlen:=h.len
 have hall:(kH g names order).es.any (uE (kH g names order))=false:=by
  rw[adU]
  intro e he
  obtain⟨i,hi,rfl⟩:=ae3 he
  obtain⟨j,hj,_,h3⟩:=h.nP (i:=i) (by omega)
  rw[aas,acF hi,Option.getD_some]at h3
  rw[h3]
  have h4:=h.range (aT h.may hj)
  have h5:=h.range (aU h.may hj)
  have e1:(kH g names order).n=g.n:=rfl
  simp only[uE,AY,e1,adK,adb]
  omega
 have e1:(kH g names order).n=g.n:=rfl
 simp only[aM,hall,e1,afs,aeY,adf,adb]
 omega
omit h in
theorem yp{i j:Nat}(e:(kH g names order).es.getD i (0,0)=(nm names (tl g j),nm names (hd g j))):tl (kH g names order) i=nm names (tl g j)/\hd (kH g names order) i=nm names (hd g j):=⟨congrArg Prod.fst e,congrArg Prod.snd e⟩
theorem mZ.loop:(0<=l7 (kH g names order))↔0<=l7 g:=by
 have key:∀g:Gr,(0<=l7 g)↔∃i,i<g.es.length/\tl g i=hd g i:=by
  intro g
  have:=cT (fun e:Edge=>decide (e.1=e.2)) g.es
  rw[show(0<=l7 g)↔g.es.any (fun e:Edge=>decide (e.1=e.2))=true from by rw[<- this];simp[l7],adQ]
  constructor
  ·rintro⟨e,he,h2⟩
   obtain⟨i,hi,rfl⟩:=ae3 he
   refine⟨i,hi, ?_⟩
   simpa[tl,hd,aas,acF hi]using h2
  ·rintro⟨i,hi,h2⟩
   refine⟨_,ad2 hi, ?_⟩
   simpa[tl,hd,aas,acF hi]using h2
 rw[key,key,h.len]
 constructor
 ·rintro⟨i,hi,e⟩
  obtain⟨j,hj,_,h3⟩:=h.nP hi
  obtain⟨e1,e2⟩:=yp h3
  exact⟨j,hj,h.inj (aT h.may hj) (aU h.may hj) (by rw[<- e1, <- e2,e])⟩
 ·rintro⟨j,hj,e⟩
  obtain⟨i,hi,_,h3⟩:=h.back hj
  obtain⟨e1,e2⟩:=yp h3
  exact⟨i,hi,by rw[e1,e2,e]⟩
omit h in
theorem lF(g:Gr):(0<=fC g)↔∃i k,i<g.es.length/\k<g.es.length/\i≠k/\g.es.getD i (0,0)=g.es.getD k (0,0):=by
 have:=cT (uH g) (List.range g.es.length)
 rw[show(0<=fC g)↔(List.range g.es.length).any (uH g)=true from by rw[<- this];simp[fC],adQ]
 constructor
 ·rintro⟨i,hi,h2⟩
  have hil:=adk.1 hi
  have h3:=aek h2
  rw[aei]at h3
  obtain⟨k,hk⟩:=h3
  rw[adD]at hk
  split at hk
  ·rename_i hki
   exact⟨i,k,hil,by omega,by omega,by rw[aas (i:=k),hk];rfl⟩
  ·cases hk
 ·rintro⟨i,k,hi,hk,hne,e⟩
  have main:∀i k,k<i->i<g.es.length->g.es.getD i (0,0)=g.es.getD k (0,0)->uH g i=true:=by
   intro i k hki hi e
   refine ac6 ?_
   rw[e,aei]
   refine⟨k, ?_⟩
   rw[adD,ac9 hki,aas,acF (by omega)];rfl
  rcases Nat.lt_or_gt_of_ne hne with hlt|hgt
  ·exact⟨k,adk.2 hk,main k i hlt hk e.symm⟩
  ·exact⟨i,adk.2 hi,main i k hgt hi e⟩
theorem mZ.Yi:(0<=fC (kH g names order))↔0<=fC g:=by
 have Ax:=(cV.1 h.ord).1
 rw[lF,lF,h.len]
 constructor
 ·rintro⟨i,k,hi,hk,hne,e⟩
  obtain⟨j,hj,ho,h3⟩:=h.nP hi
  obtain⟨j',hj',ho',NV⟩:=h.nP hk
  refine⟨j,j',hj,hj',fun e'=> ?_, ?_⟩
  ·subst e'
   exact hne (pR h.ord (by omega) (by omega) (by rw[ho,ho']))
  ·rw[h3,NV,afe]at e
   have e1:=h.inj (aT h.may hj) (aT h.may hj') e.1
   have e2:=h.inj (aU h.may hj) (aU h.may hj') e.2
   exact afr e1 e2
 ·rintro⟨j,j',hj,hj',hne,e⟩
  obtain⟨i,hi,ho,h3⟩:=h.back hj
  obtain⟨k,hk,ho',NV⟩:=h.back hj'
  refine⟨i,k,hi,hk,fun e'=> ?_, ?_⟩
  ·subst e';omega
  ·have e1:tl g j=tl g j':=congrArg Prod.fst e
   have e2:hd g j=hd g j':=congrArg Prod.snd e
   rw[h3,NV,e1,e2]
theorem mZ.aa9:KI (kH g names order)=KI g:=by
 rw[ad0,zT h.may',zT h.may]
 constructor
 ·rintro⟨r,hr⟩
  refine⟨fun v=>r (nm names v),fun j hj=> ?_⟩
  obtain⟨i,hi,_,h3⟩:=h.back hj
  obtain⟨e1,e2⟩:=yp h3
  have:=hr i (by rw[h.len];exact hi)
  rwa [e1,e2]at this
 ·rintro⟨r,hr⟩
  refine⟨fun v=>r (jg names v),fun i hi=> ?_⟩
  rw[h.len]at hi
  obtain⟨j,hj,_,h3⟩:=h.nP hi
  obtain⟨e1,e2⟩:=yp h3
  have:=hr j hj
  rw[e1,e2];simp only;rw[h.inv (aT h.may hj),h.inv (aU h.may hj)]
  exact this
omit h in
theorem mB{g:Gr}{y:Int} :y∈bZ (·.2) g↔(0<=y/\y<g.n)/\∀i,i<g.es.length->hd g i≠y:=by
 simp only[bZ,lW,ada,adI,adk,adb]
 have he:∀x:Nat,x<g.n.toNat->(((eR (·.2) g).getD x []).length=0↔∀i,i<g.es.length->hd g i≠(x:Int)):=by
  intro x hx
  have e:(eR (·.2) g).getD x []=aJ (·.2) g.es g.es.length (x:Int):=by
   simp[eR,aas,adp hx,oe]
  rw[e,agy]
  simp only[aJ,aeF,aez,adk,adb]
  rfl
 constructor
 ·rintro⟨x,⟨hx,h0⟩,rfl⟩
  refine⟨by simp;omega,(he x hx).1 h0⟩
 ·rintro⟨⟨h1,h2⟩,h3⟩
  have e:((y.toNat:Nat):Int)=y:=by omega
  exact⟨y.toNat,⟨by omega,(he _ (by omega)).2 (by rw[e];exact h3)⟩,e⟩
omit h in
theorem gm{f:Edge->Int}{g:Gr} :(bZ f g).Nodup:=by
 unfold bZ lW
 refine aex _ (fun a b h e=>h (afo e)) (agG _ afV)
theorem mZ.bare:(bZ (·.2) (kH g names order)).length=(bZ (·.2) g).length:=by
 have e1:(kH g names order).n=g.n:=rfl
 have h1:((bZ (·.2) g).map (nm names)).length<=(bZ (·.2) (kH g names order)).length:=by
  refine aej (count_le _ (bZ (·.2) (kH g names order)) ?_ ?_) aeQ
  ·rw[List.nodup_iff_pairwise_ne]
   refine aex _ (fun a b h=>h) ?_
   refine aeT ?_ gm
   intro a b ha hb hab e
   exact hab (h.inj (mB.1 ha).1 (mB.1 hb).1 e)
  ·intro v hv
   obtain⟨y,hy,rfl⟩:=ada.1 hv
   obtain⟨hy1,hy2⟩:=mB.1 hy
   refine mB.2 ⟨h.range hy1,fun i hi e=> ?_⟩
   rw[h.len]at hi
   obtain⟨j,hj,_,h3⟩:=h.nP hi
   rw[(yp h3).2]at e
   exact hy2 j hj (h.inj (aU h.may hj) hy1 e)
 have h2:((bZ (·.2) (kH g names order)).map (jg names)).length<=(bZ (·.2) g).length:=by
  have hsplit:∀v∈bZ (·.2) (kH g names order),∃a,(0<=a/\a<g.n)/\nm names a=v:=fun v hv=>h.of (mB.1 hv).1
  refine aej (count_le _ (bZ (·.2) g) ?_ ?_) aeQ
  ·rw[List.nodup_iff_pairwise_ne]
   refine aex _ (fun a b h=>h) ?_
   refine aeT ?_ gm
   intro a b ha hb hab e
   obtain⟨a',TZ,rfl⟩:=hsplit a ha
   obtain⟨b',hb',rfl⟩:=hsplit b hb
   rw[h.inv TZ,h.inv hb']at e
   exact hab (by rw[e])
  ·intro v hv
   obtain⟨y,hy,rfl⟩:=ada.1 hv
   obtain⟨a,ha,rfl⟩:=hsplit y hy
   rw[h.inv ha]
   refine mB.2 ⟨ha,fun j hj e=> ?_⟩
   obtain⟨i,hi,_,h3⟩:=h.back hj
   refine(mB.1 hy).2 i (by rw[h.len];exact hi) ?_
   rw[(yp h3).2,e]
 simp only[adn]at h1 h2
 omega
theorem mZ.kind:(bX (kH g names order)).1=(bX g).1:=by
 have hm:=h.may'
 have hc:(0<(nW (kH g names order)).length)↔0<(nW g).length:=by
  have key:∀g:Gr,aM g=true->((0<(nW g).length)↔KI g=false):=by
   intro g hm
   cases ho:KI g with
   |true=>rw[EY hm ho];simp
   |false=>simp[(Qv hm ho).1]
  rw[key _ hm,key _ h.may,h.aa9]
 have h1:=h.loop
 have h2:=h.Yi
 have h3:=h.bare
 simp only[bX,iT,hm,h.may]
 simp only[Bool.true_eq_false,if_false,h1,h2,hc,h3]
 split
 ·rfl
 split
 ·rfl
 split
 ·rfl
 split<;>rfl
end
end Go.Ab
end
section
namespace Go.Ab
open Go.Proofs
set_option maxRecDepth 10000
def N3:Nat->List Edge->Int->Option (Int × Int)
 |_, [],_=>none
 |m,e::N,v=>if e.1=v then some ((m:Int),e.2) else N3 (m+1) N v
theorem G5{v:Int} :∀ {m:Nat} {N:List Edge},(∀e∈N,e.1≠v)->N3 m N v=none
 |_, [],_=>rfl
 |m,e::N,h=>by rw[N3,ac7 (h e (adH ..)),G5 fun e' he=>h e' (adz _ he)]
theorem G6:∀ {m:Nat} {N:List Edge},(N.map (·.1)).Nodup->∀ {j:Nat},j<N.length->N3 m N (N.getD j (0,0)).1=some (((m+j:Nat):Int),(N.getD j (0,0)).2)
 |m,e::N,hd,0,_=>by rw[afl,N3,ac9 rfl];rfl
 |m,e::N,hd,j+1,hj=>by
  rw[adC,ad5]at hd
  have hj':j<N.length:=by simpa using hj
  rw[agI,N3,ac7 (fun h=>hd.1 (ada.2 ⟨_,az hj',h.symm⟩)),G6 hd.2 hj']
  congr 2
  omega
theorem ng{m:Nat}{N:List Edge}(hd:(N.map (·.1)).Nodup){v h:Int}(he:(v,h)∈N):∃j:Nat,j<N.length/\N3 m N v=some (((m+j:Nat):Int),h)/\N.getD j (0,0)=(v,h):=by
 obtain⟨j,hj,e⟩:=adr.1 he
 have e2:N.getD j (0,0)=(v,h):=by rw[aas,acF hj,Option.getD_some,e]
 have:=G6 (m:=m) hd hj
 rw[e2]at this
 exact⟨j,hj,this,e2⟩
theorem oz{m:Nat}{N:List Edge}(hd:(N.map (·.1)).Nodup)(v:Int):(N3 m N v=none/\∀e∈N,e.1≠v)\/∃h,(v,h)∈N:=by
 by_cases h:∃e∈N,e.1=v
 ·obtain⟨e,he,rfl⟩:=h
  exact .inr ⟨e.2,he⟩
 ·have h':∀e∈N,e.1≠v:=fun e he h2=>h ⟨e,he,h2⟩
  exact .inl ⟨G5 h',h'⟩
def mC(m:Nat)(N:List Edge)(t:It):It:=if 0<=t.1 then t else match N3 m N t.2.1 with
 |some (i,h)=>(i,t.2.1,h)
 |none=>t
theorem kE{m:Nat}{N:List Edge}{t:It}(h:0<=t.1):mC m N t=t:=ac9 h
theorem jb{m:Nat}{N:List Edge}{t:It}(h:t.1<0){i x:Int}(hn:N3 m N t.2.1=some (i,x)):mC m N t=(i,t.2.1,x):=by
 unfold mC
 rw[ac7 (by omega),hn]
theorem q9{m:Nat}{N:List Edge}{t:It}(hn:N3 m N t.2.1=none):mC m N t=t:=by
 unfold mC
 split
 ·rfl
 ·rw[hn]
structure qn (g:Gr) (p:Pl):Prop where
 run:aG g p
 n:(aj g p).n<=64
 es:(aj g p).es.length<=128
variable {g:Gr} {p:Pl}
theorem BQ{v x:Int} :∀ {k:Nat},(v,x)∈dL g p k->∃i,i<k/\x=aq p i/\v∈loose (cB g p i)
 |k+1,h=>by
  rw[dL,ac8]at h
  rcases h with h|h
  ·obtain⟨i,h1,h2⟩:=BQ h
   exact⟨i,by omega,h2⟩
  ·obtain⟨w,hw,e⟩:=ada.1 h
   cases e
   exact⟨k,by omega,rfl,hw⟩
theorem rq{v:Int} :∀ {k i:Nat},i<k->v∈loose (cB g p i)->(v,aq p i)∈dL g p k
 |k+1,i,hi,h=>by
  rw[dL,ac8]
  by_cases e:i=k
  ·subst e;exact .inr (ada.2 ⟨v,h,rfl⟩)
  ·exact .inl (rq (by omega) h)
theorem xg{v x:Int}(h:(v,x)∈bg g p):(∃i,i<g.n.toNat/\x=aq p i/\v∈loose (cB g p i))\/(1<(bu g p).length/\x=g.n/\v∈loose (bu g p)):=by
 rw[bg,ac8]at h
 rcases h with h|h
 ·exact .inl (BQ h)
 ·unfold newL at h
  split at h
  ·obtain⟨w,hw,e⟩:=ada.1 h
   cases e
   exact .inr ⟨by assumption,rfl,hw⟩
  ·cases h
theorem jS{l:List It}{t:It}(h:t∈l)(h0:t.1<0):t.2.1∈loose l:=ada.2 ⟨t,adI.2 ⟨h,ac6 h0⟩,rfl⟩
theorem zU(h:qn g p):aM (aj g p)=true:=by
 have hm:=ah h.run.1
 have hn:=aB hm
 have SH:g.n<=(aj g p).n:=by unfold aj;split<;>simp only<;>omega
 have h1:=h.n
 have h2:=h.es
 simp only[aM,adf,adb,adJ,adU]
 refine⟨⟨⟨by omega,h1⟩,by omega⟩,fun e he=> ?_⟩
 have he:e∈g.es++bg g p:=he
 simp only[uE,AY,adK,adb,not_or]
 rcases ac8.1 he with he|he
 ·obtain⟨i,hi,rfl⟩:=adr.1 he
  have:=cU hm hi
  rw[aas,acF hi,Option.getD_some]at this
  omega
 ·have q1:=((iB h.run).2 e he).1
  rcases xg (v:=e.1) (x:=e.2) he with ⟨i,hi,hx,_⟩|⟨hl,hx,_⟩
  ·have:=aD h.run.2.1 hi
   omega
  ·have:(aj g p).n=g.n+1:=ac9 hl
   omega
theorem xh{v:Int} :b8 (aj g p) v=b8 g v++(aJ (·.1) (bg g p) (bg g p).length v).map (· +(g.es.length:Int)):=ym
theorem yq(i:Nat)(hi:i<g.es.length):(aj g p).es.getD i (0,0)=g.es.getD i (0,0):=by
 show(g.es++bg g p).getD i (0,0)=_
 rw[aas,adx hi, <- List.getD_eq_getElem?_getD]
theorem xm(j:Nat):(aj g p).es.getD (g.es.length+j) (0,0)=(bg g p).getD j (0,0):=by
 show(g.es++bg g p).getD _ (0,0)=_
 rw[aas,adw (by omega),af2, <- List.getD_eq_getElem?_getD]
theorem yu(hr:aG g p){v:Int}(h0:0<=v/\v<g.n)(hs:bE p v= []):(∀h,(v,h)∈bg g p->∃j:Nat,N3 g.es.length (bg g p) v=some (((g.es.length+j:Nat):Int),h)/\b8 (aj g p) v= [((g.es.length+j:Nat):Int)]/\(aj g p).es.getD (g.es.length+j) (0,0)=(v,h))/\
 ((∀e∈bg g p,e.1≠v)->b8 (aj g p) v= []):=by
 obtain⟨vt,Jl⟩:=iB hr
 have hz:b8 g v= []:=(mA hr.2.1 h0.1 h0.2).2 hs
 constructor
 ·intro h hm
  obtain⟨j,hj,h1,h2⟩:=ng (m:=g.es.length) vt hm
  refine⟨j,h1, ?_,by rw[xm,h2]⟩
  have e1:=GZ vt hj
  rw[h2]at e1
  rw[xh,hz,e1]
  simp;omega
 ·intro h
  rw[xh,hz,lD h];rfl
theorem BR(hr:aG g p){v:Int}(h0:0<=v/\v<g.n)(hs:bE p v≠ []):b8 (aj g p) v=b8 g v:=by
 obtain⟨vt,Jl⟩:=iB hr
 rw[xh,lD fun e he h=>hs (by rw[<- h];exact(Jl e he).2)]
 simp
theorem e9:g.n<=(aj g p).n/\(aj g p).n<=g.n+1:=by
 unfold aj;split<;>simp only<;>omega
theorem EZ(hr:aG g p){v:Int}(h0:0<=v/\v<g.n):bE (bK g p) v=if bE p v≠ [] then bE p v else b8 (aj g p) v:=by
 have hn:=e9 (g:=g) (p:=p)
 unfold bE
 rw[BM hr,Jk,aas,adm,adp (by omega)]
 simp only[Option.map_some,Option.getD_some]
 rw[show((v.toNat:Nat):Int)=v by omega]
 by_cases h:p.outs.getD v.toNat []= []
 ·rw[h];simp
 ·rw[ac9 (ae6.2 h),ac9 h]
theorem zV(hr:aG g p)(hl:1<(bu g p).length):bE (bK g p) g.n= []/\b8 (aj g p) g.n= []:=by
 have hm:=ah hr.1
 have hn:=aB hm
 have hG:(aj g p).n=g.n+1:=ac9 hl
 have hz:b8 (aj g p) g.n= []:=by
  rw[xh,lD fun e he h=>by have:=((iB hr).2 e he).1;omega]
  simp only[adO,ad4]
  refine lD fun e he h=> ?_
  obtain⟨i,hi,rfl⟩:=adr.1 he
  have:=(cU hm hi).1
  rw[aas,acF hi,Option.getD_some]at this
  omega
 refine⟨?_,hz⟩
 unfold bE
 rw[BM hr,Jk,aas,adm,adp (by omega)]
 simp only[Option.map_some,Option.getD_some]
 rw[show((g.n.toNat:Nat):Int)=g.n by omega,hz]
 have:p.outs.getD g.n.toNat []= []:=by rw[aas,ado (by rw[hr.2.1.1];exact adg _)];rfl
 rw[this];rfl
theorem ru(hr:aG g p):bq (aj g p) (bK g p):=by
 have h:=hr.2.1
 have hm:=ah hr.1
 have hn:=aB hm
 have ha:=e9 (g:=g) (p:=p)
 refine⟨by rw[BM hr];simp[Jk], ?_,fun x hx=> ?_⟩
 ·unfold bK aj
  split
  ·have e:(g.n+1).toNat=g.n.toNat+1:=by omega
   have e2:dD (g.n.toNat+1)=dD g.n.toNat++ [g.n]:=by
    simp only[dD,adV,ads,adC,adO]
    congr 2
    show((g.n.toNat:Nat):Int)=g.n
    omega
   show(p.ord++ [g.n]).Perm (dD (g.n+1).toNat)
   rw[e,e2]
   exact h.2.1.append_right _
  ·exact h.2.1
 ·have hl:(bK g p).outs.getD x []=bE (bK g p) (x:Int):=by unfold bE;rw[Int.toNat_natCast]
  rw[hl]
  by_cases Gg:(x:Int)<g.n
  ·rw[EZ hr ⟨by omega,Gg⟩]
   split
   ·rename_i h2
    rw[BR hr ⟨by omega,Gg⟩ h2]
    exact aW h (by omega) Gg
   ·exact agL _
  ·have NY:1<(bu g p).length:=adl fun hl=>by
    have:(aj g p).n=g.n:=ac7 hl
    omega
   have e:(x:Int)=g.n:=by omega
   rw[e,(zV hr NY).1,(zV hr NY).2]
theorem zW(hr:aG g p){k:Nat}(hk:k<g.n.toNat):aq (bK g p) k=aq p k:=by
 have:=aI hr.2.1
 unfold aq bK
 simp only
 split
 ·rw[aas,adx (by omega), <- List.getD_eq_getElem?_getD]
 ·rfl
theorem SZ(hr:aG g p)(hl:1<(bu g p).length):aq (bK g p) g.n.toNat=g.n:=by
 have:=aI hr.2.1
 unfold aq bK
 simp only
 rw[ac9 hl,aas,adw (by omega),this]
 simp
theorem Dq(hr:aG g p){x:Int}(h0:0<=x/\x<g.n):aQ (aj g p) x (bE (bK g p) x)=(aQ g x (bE p x)).map (mC g.es.length (bg g p)):=by
 obtain⟨vt,Jl⟩:=iB hr
 rw[EZ hr h0]
 by_cases hs:bE p x= []
 ·obtain⟨s1,s2⟩:=yu hr h0 hs
  have ha:aQ g x (bE p x)= [(-1,x, -1)]:=ac9 hs
  rw[ac7 (by simp[hs]),ha]
  rcases oz (m:=g.es.length) vt x with ⟨h1,h2⟩|⟨h,hm⟩
  ·rw[s2 h2,adC,adO,q9 h1]
   rfl
  ·obtain⟨j,h1,h2,h3⟩:=s1 h hm
   rw[h2,adC,adO,jb (t:=(-1,x, -1)) (by simp) h1]
   have NV:((aj g p).es.getD (((g.es.length+j:Nat):Int)).toNat (0,0))=(x,h):=by rw[Int.toNat_natCast];exact h3
   simp only[aQ,gM,List.cons_ne_nil,if_false,adC,adO,NV]
 ·rw[ac9 hs]
  unfold aQ
  rw[ac7 hs,ac7 hs,aeE]
  refine ae5 fun i hi=> ?_
  obtain⟨k,rfl,hk,ht⟩:=ko ((aW hr.2.1 h0.1 h0.2).mem_iff.1 hi)
  simp only[Function.comp]
  rw[kE (t:=gM g x (k:Int)) (by simp[gM])]
  simp only[gM,Int.toNat_natCast,yq k hk]
theorem xo{x:Int} :aV (aj g p) x=aV g x+((bg g p).filter fun e=>decide (e.2=x)).length:=by
 unfold aV
 have:aJ (·.2) (aj g p).es (aj g p).es.length x=aJ (·.2) g.es g.es.length x++(aJ (·.2) (bg g p) (bg g p).length x).map (· +(g.es.length:Int)):=ym
 rw[this,adi,adn]
 congr 1
 generalize bg g p=N
 unfold aJ
 rw[adn, <- List.countP_eq_length_filter, <- List.countP_eq_length_filter]
 have e:N=(List.range N.length).map fun i=>N.getD i (0,0):=by
  refine agm (by simp) fun i h1 h2=> ?_
  simp[aas,acF h1]
 conv=>rhs;rw[e]
 rw[List.countP_map]
 rfl
end Go.Ab
end
section
namespace Go.Ab
open Go.Proofs
set_option maxRecDepth 10000
variable {g:Gr} {p:Pl}
theorem za(h:bq g p){k:Nat} :∀ {K:Nat},K<=g.n.toNat->k<g.n.toNat->(dL g p K).filter (fun e=>decide (e.2=aq p k))=if k<K then(loose (cB g p k)).map fun v=>(v,aq p k) else []
 |0,_,_=>by simp[dL]
 |K+1,hK,hk=>by
  rw[dL,ad8,za h (by omega) hk]
  by_cases e:k=K
  ·subst e
   rw[ac7 (by omega),ac9 (by omega),List.nil_append,afk.2]
   intro e he
   obtain⟨v,_,rfl⟩:=ada.1 he
   simp
  ·have:((loose (cB g p K)).map fun v=>(v,aq p K)).filter (fun e=>decide (e.2=aq p k))= []:=aez.2 fun e' he=>by
    obtain⟨v,_,rfl⟩:=ada.1 he
    simp only[adb]
    intro h2
    exact e (dS h hk (by omega) h2.symm)
   rw[this,ad4]
   by_cases h3:k<K
   ·rw[ac9 h3,ac9 (by omega)]
   ·rw[ac7 h3,ac7 (by omega)]
theorem zf(hr:aG g p){k:Nat}(hk:k<g.n.toNat):((bg g p).filter fun e=>decide (e.2=aq p k)).length=(loose (cB g p k)).length:=by
 have hx:=aD hr.2.1 hk
 rw[bg,ad8,za hr.2.1 (adg _) hk,ac9 hk]
 have:(newL g p).filter (fun e=>decide (e.2=aq p k))= []:=aez.2 fun e' he=>by
  unfold newL at he
  split at he
  ·obtain⟨v,_,rfl⟩:=ada.1 he
   simp only[adb];omega
  ·cases he
 rw[this];simp
theorem BS{l:List Int}(h:l.Nodup){k:Nat}(hk:k<l.length):l.getD k 0∉l.take k:=by
 intro hm
 obtain⟨j,hj,e⟩:=adr.1 hm
 simp only[adG]at hj
 have e2:l.getD j 0=l.getD k 0:=by
  rw[<- e,aas,acF (by omega)]
  simp
 have:=l9 h (by omega) hk e2
 omega
theorem take_at{p:Pl}{k:Nat}{v:Int}(hk:k<=p.ord.length)(h:v∈p.ord.take k):∃j,j<k/\aq p j=v:=by
 obtain⟨j,hj,e⟩:=adr.1 h
 simp only[adG]at hj
 refine⟨j,by omega, ?_⟩
 rw[<- e,aq,aas,acF (by omega)]
 simp
theorem zg{x:Int}{X:List It}(h:∀t∈X,(t.1<0↔¬t.2.2=x)):X.countP (lz x)+(loose X).length=X.length:=by
 rw[List.length_eq_countP_add_countP (lz x)]
 congr 1
 unfold loose
 rw[adn, <- List.countP_eq_length_filter]
 refine afi fun t ht=> ?_
 have:=h t ht
 simp only[lz,adb,Bool.not_eq_true,adL]
 exact this
theorem Zj(h:qn g p):∀ {k:Nat},k<=g.n.toNat->(∀j,j<k->xP (aj g p) (bK g p) j=true)/\(fK (aj g p) (bK g p) k).row=(fK g p k).row.map (mC g.es.length (bg g p))
 |0,_=>⟨fun j hj=>by omega,rfl⟩
 |k+1,hk=>by
  have hr:=h.run
  have mY:=hr.2.1
  have hm:=ah hr.1
  have BT:=zU h
  have hQ:=ru hr
  obtain⟨vt,Jl⟩:=iB hr
  have hnG:=e9 (g:=g) (p:=p)
  obtain⟨WR,hrow⟩:=Zj h (k:=k) (by omega)
  obtain⟨hi,_,_⟩:=bz hm mY (k:=k) (by omega) fun j hj=>hr.2.2 j (by omega)
  obtain⟨S0,Jn,_⟩:=bz BT hQ (k:=k) (by omega) WR
  have hR:au g (fK g p k) (aq p k)=true:=hr.2.2 k (by omega)
  have pE:=zW hr (k:=k) (by omega)
  have hx:=aD mY (k:=k) (by omega)
  obtain⟨NY,Iz⟩:=lE hm mY (k:=k) (by omega) fun j hj=>hr.2.2 j (by omega)
  have hlr:(loose (fK g p k).row).Nodup:=(adt.1 NY).2.1
  have hnot:aq p k∉(fK (aj g p) (bK g p) k).pl:=by
   rw[Jn, <- pE]
   exact BS (cF hQ) (by rw[aI hQ];omega)
  have Jo:=zf hr (k:=k) (by omega)
  have bR:=xo (g:=g) (p:=p) (x:=aq p k)
  have VM:=Dq hr hx
  have hin:∀v,(v,aq p k)∈bg g p->v∈loose (cB g p k):=fun v hv=>by
   rcases xg hv with ⟨i,h1,h2,h3⟩|⟨_,h2,_⟩
   ·have:=dS mY (by omega) h1 h2
    subst this;exact h3
   ·omega
  have hout:∀v,v∈loose (cB g p k)->(v,aq p k)∈bg g p:=fun v hv=>adR _ (rq (by omega) hv)
  suffices hs:xP (aj g p) (bK g p) k=true/\(fK (aj g p) (bK g p) (k+1)).row=(fK g p (k+1)).row.map (mC g.es.length (bg g p)) by
   refine⟨fun j hj=> ?_,hs.2⟩
   by_cases e:j=k
   ·subst e;exact hs.1
   ·exact WR j (by omega)
  have hfG:(fK (aj g p) (bK g p) (k+1))=(aC (aj g p) (fK (aj g p) (bK g p) k) (aq p k) (bE (bK g p) (aq p k))).2:=by
   rw[<- pE];rfl
  have hfg:(fK g p (k+1))=(aC g (fK g p k) (aq p k) (bE p (aq p k))).2:=rfl
  have hok:xP (aj g p) (bK g p) k=au (aj g p) (fK (aj g p) (bK g p) k) (aq p k):=by unfold xP;rw[pE]
  rw[hfG,hfg,hok]
  have GA:cB g p k=(aC g (fK g p k) (aq p k) (bE p (aq p k))).1.1:=rfl
  generalize aq p k=x at*
  by_cases hn:aV g x=0
  ·have hno:=dO hm hi.tofL hx.1 hn
   rw[cH _ hno]at GA
   have S1:aV (aj g p) x=0:=by rw[bR,hn,Jo,GA];rfl
   have VN:=dO BT S0.tofL hx.1 S1
   refine⟨?_, ?_⟩
   ·unfold au
    rw[ac7 (by rintro(h|h|h);omega;omega;exact hnot h),ac9 S1]
   ·rw[cH _ hno,cH _ VN]
    simp only[ads]
    rw[VM,hrow]
  ·obtain⟨A,X,C,hrw,nA,nC,hX,cX⟩:=bD hm hi.tofL hR hn
   rw[dR _ hrw nA nC hX]at GA
   simp only at GA
   rw[GA]at hin hout Jo
   have hXm:∀t∈X,t∈(fK g p k).row:=fun t ht=>by rw[hrw];simp[ht]
   have hAm:∀t∈A,t∈(fK g p k).row:=fun t ht=>by rw[hrw];simp[ht]
   have hCm:∀t∈C,t∈(fK g p k).row:=fun t ht=>by rw[hrw];simp[ht]
   have hit:∀t∈X,(t.1<0↔¬t.2.2=x):=fun t ht=>by
    have h1:=(hi.it t (hXm t ht)).head hm
    have h2:=hX.al t ht
    omega
   rw[hrw,bY,bY,adt,adt]at hlr
   have Zk:gv x (A.map (mC g.es.length (bg g p))):=fun t' ht'=>by
    obtain⟨t,ht,rfl⟩:=ada.1 ht'
    by_cases h0:0<=t.1
    ·rw[kE h0];exact nA t ht
    ·rcases oz (m:=g.es.length) vt t.2.1 with ⟨h1,_⟩|⟨y,h1⟩
     ·rw[q9 h1];exact nA t ht
     ·obtain⟨j,_,h2,_⟩:=ng (m:=g.es.length) vt h1
      rw[jb (by omega) h2]
      intro e
      have e:y=x:=e
      subst e
      exact hlr.1.2.2 _ (jS ht (by omega)) _ (hin _ h1) rfl
   have Zl:gv x (C.map (mC g.es.length (bg g p))):=fun t' ht'=>by
    obtain⟨t,ht,rfl⟩:=ada.1 ht'
    by_cases h0:0<=t.1
    ·rw[kE h0];exact nC t ht
    ·rcases oz (m:=g.es.length) vt t.2.1 with ⟨h1,_⟩|⟨y,h1⟩
     ·rw[q9 h1];exact nC t ht
     ·obtain⟨j,_,h2,_⟩:=ng (m:=g.es.length) vt h1
      rw[jb (by omega) h2]
      intro e
      have e:y=x:=e
      subst e
      exact hlr.2.2 _ (adZ _ (hin _ h1)) _ (jS ht (by omega)) rfl
   have KY:∀t∈X,(mC g.es.length (bg g p) t).2.2=x:=fun t ht=>by
    by_cases h0:0<=t.1
    ·rw[kE h0]
     have:=hit t ht
     omega
    ·obtain⟨j,_,h2,_⟩:=ng (m:=g.es.length) vt (hout _ (jS ht (by omega)))
     rw[jb (by omega) h2]
   have Jf:Mid x (X.map (mC g.es.length (bg g p))):=by
    obtain⟨q,X0,e1,_⟩:=hX.fst
    obtain⟨X1,q',e2,_⟩:=hX.GL
    refine⟨⟨mC g.es.length (bg g p) q,X0.map (mC g.es.length (bg g p)),by rw[e1];rfl,KY q (by rw[e1];simp)⟩,⟨X1.map (mC g.es.length (bg g p)),mC g.es.length (bg g p) q',by rw[e2];simp,KY q' (by rw[e2];simp)⟩,fun t' ht'=> ?_⟩
    obtain⟨t,ht,rfl⟩:=ada.1 ht'
    exact .inl (KY t ht)
   have AQ:(X.map (mC g.es.length (bg g p))).countP (lz x)=aV (aj g p) x:=by
    have h1:(X.map (mC g.es.length (bg g p))).countP (lz x)=(X.map (mC g.es.length (bg g p))).length:=afH.2 fun t' ht'=>by
     obtain⟨t,ht,rfl⟩:=ada.1 ht'
     simp[lz,KY t ht]
    rw[h1,adn,bR,Jo, <- cX,zg hit]
   have VO:(fK (aj g p) (bK g p) k).row=A.map (mC g.es.length (bg g p))++X.map (mC g.es.length (bg g p))++C.map (mC g.es.length (bg g p)):=by rw[hrow,hrw];simp
   refine⟨mu BT S0.tofL hx.1 (by omega) hnot VO Zk Zl Jf AQ, ?_⟩
   rw[dR _ hrw nA nC hX,dR _ VO Zk Zl Jf]
   simp only[ads]
   rw[VM]
theorem KZ(hr:aG g p){v:Int}{k:Nat} :∀ {K:Nat},k<=K->K<=g.n.toNat->v∈loose (fK g p k).row->(∃i,i<K/\v∈loose (cB g p i))\/v∈loose (fK g p K).row
 |0,h1,_,hv=>by
  obtain rfl:k=0:=by omega
  exact .inr hv
 |K+1,h1,h2,hv=>by
  by_cases e:k=K+1
  ·subst e;exact .inr hv
  ·rcases KZ hr (K:=K) (by omega) (by omega) hv with ⟨i,h3,h4⟩|h3
   ·exact .inl ⟨i,by omega,h4⟩
   ·have hm:=ah hr.1
    obtain⟨hi,_,_⟩:=bz hm hr.2.1 (k:=K) (by omega) fun j hj=>hr.2.2 j (by omega)
    obtain⟨A,X,C,hrw,_,_,_,hs⟩:=iJ hm hi.tofL (hr.2.2 K (by omega))
    have hg:cB g p K=X:=by unfold cB;rw[hs]
    have hrow:(fK g p (K+1)).row=A++aQ g (aq p K) (bE p (aq p K))++C:=by show(aC _ _ _ _).2.row=_;rw[hs]
    rw[hrw,bY,bY,ac8,ac8]at h3
    rcases h3 with (h3|h3)|h3
    ·refine .inr ?_
     rw[hrow,bY,bY];simp[h3]
    ·exact .inl ⟨K,by omega,by rw[hg];exact h3⟩
    ·refine .inr ?_
     rw[hrow,bY,bY];simp[h3]
end Go.Ab
end
