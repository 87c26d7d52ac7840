/- A part of the proof. -/
import Derived.Test.YtameldglfobjkaaGreatL6P27
set_option linter.unusedSimpArgs false
set_option linter.unusedVariables false
set_option linter.unusedSectionVars false
section
set_option maxHeartbeats 8000000
set_option maxRecDepth 60000
namespace Go.Ab
attribute [local congr] ACall.congr gd.congr Ny.congr vcOps.congr
open Go.Proofs
def swapT(l:List It)(k:Nat):List It:=(List.range l.length).map fun p=>if p<k\/l.length - 1<p+k then l.getD (l.length - 1 - p) (0,0,0) else l.getD p (0,0,0)
theorem fE{l:List It}{k:Nat} :(swapT l k).length=l.length:=by simp[swapT]
theorem oR{l:List It}{k p:Nat}(h:p<l.length):(swapT l k)[p]? =some (if p<k\/l.length - 1<p+k then l.getD (l.length - 1 - p) (0,0,0) else l.getD p (0,0,0)):=by
 simp[swapT,adp h]
theorem B7{l:List It}{k p:Nat}(h:p<l.length)(d:It):(swapT l k).getD p d=if p<k\/l.length - 1<p+k then l.getD (l.length - 1 - p) (0,0,0) else l.getD p (0,0,0):=by
 rw[aas,oR h];rfl
theorem JC{l:List It} :swapT l 0=l:=by
 refine adY fun i=> ?_
 by_cases hi:i<l.length
 ·rw[oR hi,ac7 (by omega),aas,acF hi];rfl
 ·rw[ado (by rw[fE];omega),ado (by omega)]
theorem Nk{l:List It}{k:Nat}(h:l.length<=2*k+1):swapT l k=l.reverse:=by
 refine adY fun i=> ?_
 by_cases hi:i<l.length
 ·rw[oR hi,afa hi]
  split
  ·rw[aas,acF (by omega)];rfl
  ·have:i=l.length - 1 - i:=by omega
   rw[<- this,aas,acF hi];rfl
 ·rw[ado (by rw[fE];omega),ado (by rw[aeP];omega)]
theorem JD{l:List It}{k:Nat}(h:k<l.length - 1 - k):((swapT l k).set k ((swapT l k).getD (l.length - 1 - k) (0,0,0))).set (l.length - 1 - k) ((swapT l k).getD k (0,0,0))=swapT l (k+1):=by
 refine adY fun i=> ?_
 rw[aea,adP,fE,aea,fE]
 by_cases hi:i<l.length
 ·rw[oR hi,oR hi,B7 (by omega),B7 (by omega)]
  by_cases h1:l.length - 1 - k=i
  ·rw[ac9 h1,ac9 (by omega),ac7 (by omega),ac9 (by omega)]
   congr 2;omega
  ·rw[ac7 h1]
   by_cases h2:k=i
   ·rw[ac9 h2,ac9 (by omega),ac7 (by omega),ac9 (by omega)]
    congr 2;omega
   ·rw[ac7 h2]
    congr 1
    by_cases h3:i<k\/l.length - 1<i+k
    ·rw[ac9 h3,ac9 (by omega)]
    ·rw[ac7 h3,ac7 (by omega)]
 ·rw[ado (by rw[fE];omega),ado (by rw[fE];omega),ac7 (by omega),ac7 (by omega)]
theorem VX(l:List It)(k:Nat)(t:It):(l.map rT).set k [.sc (.int .i64 t.1), .sc (.int .i64 t.2.1), .sc (.int .i64 t.2.2)]=(l.set k t).map rT:=by
 rw[aeR];rfl
theorem CK(l:List It)(hl:l.length<=1000000):Spec Tryz.prog 106 (Args [.ref 10000]) [(10000, .own 92 3 (l.map rT))] (.tup []) [(10000, .own 92 3 (l.reverse.map rT))]:=by
 (refine T.h [] [] [] Tryz.func106 rfl rfl (by kernel_rfl) fun X hX hP hC aA bB=> ?_)
 repeat' (first|refine Rn.p ?_|((first|refine Rs.p ?_|with_reducible intro K hK|(refine hK _ ?_;clear hK K));try simp only[go_sem,simprocAttr])|with_reducible (apply And.intro)|omega)
 refine ag (fun k:Nat=>2*k<=l.length+1) (fun k=>⟨[(0, .ref 10000),(2,eN k),(3,eN ((l.length:Int) - 1 - k))], [(10000, .own 92 3 ((swapT l k).map rT))]⟩) (fun k=>l.length+1 - k) 0 (by omega) ?_ ?_
 ·refine Le.of ?_ ?_<;>simp[go_sem,simprocAttr,JC]
 rintro k hk
 rcases adj (2*k+1) l.length with hlt|hge
 ·have hb:decide ((k:Int)<(l.length:Int) - 1 - (k:Int))=true:=ac6 (by omega)
  have ht:((l.length:Int) - 1 - (k:Int)).toNat=l.length - 1 - k:=by omega
  repeat' (first|refine Rn.p ?_|((first|refine Rs.p ?_|with_reducible intro K hK|(refine hK _ ?_;clear hK K));try simp only[go_sem,simprocAttr,hb,ht,fE,VX,List.length_cons,List.length_nil,aer,ae1,List.drop_nil])|with_reducible (first|apply And.intro|refine oD (by kernel_rfl) ?_)|omega)
  refine⟨k+1,by omega, ?_,by omega⟩
  refine Le.of ?_ ?_<;>simp[go_sem,simprocAttr]
  ·omega
  ·rw[<- JD (by omega),aeR,aeR]
   simp only[aas]
   rfl
 ·have hb:decide ((k:Int)<(l.length:Int) - 1 - (k:Int))=false:=ac5 (by omega)
  repeat' (first|refine Rn.p ?_|((first|refine Rs.p ?_|with_reducible intro K hK|(refine hK _ ?_;clear hK K));try simp only[go_sem,simprocAttr,hb]))
  simp only[go_sem,simprocAttr,hb,Nk hge]
theorem Hr(ps:List It)(hl:ps.length<=1000000):
 Spec Tryz.prog 142 (Args [.d (sT ps)]) [] (.ref 10000) [(10000, .own 92 3 (ps.map rT))]:=by
 (refine T.hR [5,7] [] [.t 2] [(10000,7)] Tryz.func142 rfl rfl (by kernel_rfl) fun X hX hP hC aA bB=> ?_)
 repeat' (first|(show cR _ .ret _ _;(try simp only[go_sem,simprocAttr]);refine dQ hX 2 7 (.own 92 3 []) ?_ ?_ (by decide) ⟨92,3,by decide, .inl rfl⟩ ?_;(iterate 2 (focus(simp only[go_sem,simprocAttr];done)));simp only[go_sem,simprocAttr])|refine Rn.p ?_|((first|refine Rs.p ?_|with_reducible intro K hK|(refine hK _ ?_;clear hK K));try simp only[go_sem,simprocAttr])|with_reducible (first|apply And.intro|(intro h;try simp only[go_sem,simprocAttr]at h))|omega)
 exact h.symm
theorem Nl(ds:List D)(row:List It)(hr:row.length<=1000000):Spec Tryz.prog 90 (Args [.d (.pt (sT row::ds))]) [] (.ref 10000) [(10000, .own 92 3 (row.map rT))]:=by
 (refine T.hR [] [] [.t 2] [(10000,7)] Tryz.func90 rfl rfl (by kernel_rfl) fun X hX hP hC aA bB=> ?_)
 repeat' (first|refine Rn.p ?_|((first|refine Rs.p ?_|with_reducible intro K hK|(refine hK _ ?_;clear hK K)|(refine aS [(10000,7)] (Hr row hr) ?_ ?_;(focus(simp[go_sem,simprocAttr];done))));try simp only[go_sem,simprocAttr]))
def DD(rs:List Int)(l:List It):Int:=match l.find? (fun t=>decide (t.2.2∈rs)) with
 |some t=>t.2.2
 |none=>rs.headD (-1)
theorem Nn(rs:List Int)(l:List It)(hr:rs≠ [])(hrl:rs.length<=1000000)(hl:l.length<=1000000):Spec Tryz.prog 154 (Args [.d (sI rs), .d (sT l)]) [] (eN (DD rs l)) []:=by
 generalize hH:DD rs l=H
 (refine T.h [] [] [.t 4] Tryz.func154 rfl rfl (by kernel_rfl) fun X hX hP hC aA bB=> ?_)
 repeat' (first|refine Rn.p ?_|((first|refine Rs.p ?_|with_reducible intro K hK|(refine hK _ ?_;clear hK K));try simp only[go_sem,simprocAttr]))
 refine ag (fun k:Nat=>k<=l.length/\∀j,j<k->(l.getD j (0,0,0)).2.2∉rs) (fun k=>⟨[(0, .d (sI rs)),(7, .d (sT l)),(8,eN l.length),(9,eN k)], []⟩) (fun k=>l.length - k) 0 (by simp) ?_ ?_
 ·(refine Le.of ?_ ?_<;>simp[go_sem,simprocAttr])
 rintro k ⟨hk,hg⟩
 rcases adj k l.length with cM|RH
 ·have hb:decide ((k:Int)<(l.length:Int))=true:=ac6 (by omega)
  by_cases h1:(l.getD k (0,0,0)).2.2∈rs
  ·have hb1:decide ((l.getD k (0,0,0)).2.2∈rs)=true:=ac6 h1
   have:(l.getD k (0,0,0)).2.2=H:=by
    rw[<- hH];unfold DD
    have:l.find? (fun t=>decide (t.2.2∈rs))=some (l.getD k (0,0,0)):=by
     rw[List.find?_eq_some_iff_getElem]
     refine⟨hb1,k,cM,by rw[aas,acF cM];rfl,fun j hj=> ?_⟩
     have:=hg j hj
     rw[aas,acF (by omega)]at this
     simpa using this
    rw[this]
   have hb2:decide (H∈rs)=true:=by rw[<- this];exact hb1
   repeat' (first|refine Rn.p ?_|((first|refine Rs.p ?_|with_reducible intro K hK|(refine hK _ ?_;clear hK K)|refine aa (dm rs H (by omega)) rfl ?_);try simp only[go_sem,simprocAttr,hb,hb2,this])|with_reducible (apply And.intro)|omega)
  ·have hb1:decide ((l.getD k (0,0,0)).2.2∈rs)=false:=ac5 h1
   repeat' (first|refine Rn.p ?_|((first|refine Rs.p ?_|with_reducible intro K hK|(refine hK _ ?_;clear hK K)|refine aa (dm rs (l.getD k (0,0,0)).2.2 (by omega)) rfl ?_);try simp only[go_sem,simprocAttr,hb,hb1])|with_reducible (apply And.intro)|omega)
   refine⟨k+1,⟨by omega,fun j hj=> ?_⟩, ?_,by omega⟩
   ·by_cases e:j=k
    ·subst e;exact h1
    ·exact hg j (by omega)
   ·(refine Le.of ?_ ?_<;>simp[go_sem,simprocAttr,hb,hb1])
 ·have hb:decide ((k:Int)<(l.length:Int))=false:=ac5 (by omega)
  have hpos:=ae6.2 hr
  have:rs.getD 0 0=H:=by
   rw[<- hH];unfold DD
   have:l.find? (fun t=>decide (t.2.2∈rs))=none:=by
    rw[List.find?_eq_none]
    intro t ht
    obtain⟨j,hj,rfl⟩:=adr.1 ht
    have:=hg j (by omega)
    rw[aas,acF hj]at this
    simpa using this
   rw[this]
   match rs,hr with
   |a::_,_=>rfl
  repeat' (first|refine Rn.p ?_|((first|refine Rs.p ?_|with_reducible intro K hK|(refine hK _ ?_;clear hK K));try simp only[go_sem,simprocAttr,hb,this])|with_reducible (apply And.intro)|omega)
theorem S9{g:Gr}(hm:aM g=true){f:Fr}(hi:fL g f)(rev:Bool):DD (gQ g f) (kz rev f.row)=ee g f rev:=by
 unfold DD ee
 have:(fun t:It=>decide (t.2.2∈gQ g f))=fun t:It=>au g f t.2.2:=by
  funext t
  cases h:au g f t.2.2 with
  |true=>exact ac6 ((kC hm hi).2 h)
  |false=>exact ac5 fun h2=>by rw[(kC hm hi).1 h2]at h;cases h
 rw[this]
 rfl
theorem JE(row:List It):Spec Tryz.prog 105 (Args [.ref 10000]) [(10000, .own 92 3 (row.map rT))] (.tup []) [(10000, .own 92 3 ((kz false row).map rT))]:=by
 (refine T.h [] [] [] Tryz.func105 rfl rfl (by kernel_rfl) fun X hX hP hC aA bB=> ?_)
 repeat' (first|refine Rn.p ?_|(refine Rs.p ?_;try simp only[go_sem,simprocAttr,kz]))
theorem JF(row:List It)(hl:row.length<=1000000):Spec Tryz.prog 106 (Args [.ref 10000]) [(10000, .own 92 3 (row.map rT))] (.tup []) [(10000, .own 92 3 ((kz true row).map rT))]:=CK row hl
theorem DE(g:Gr)(p:Pl)(h:aG g p)(rev:Bool)(F:Nat)(Yu:∀row:List It,row.length<=1000000->Spec Tryz.prog F (Args [.ref 10000]) [(10000, .own 92 3 (row.map rT))] (.tup []) [(10000, .own 92 3 ((kz rev row).map rT))]):
 Spec Tryz.prog 104 (Args [eG g, .d (.sl 1 (vI p.outs)), .fn F [] []]) [] (.d (sI (gl g p rev g.n.toNat))) []:=by
 have hm:=ah h.1
 have hn:=aB hm
 (refine T.h [] [] [.t 6] Tryz.func104 rfl rfl (by kernel_rfl) fun X hX hP hC aA bB=> ?_)
 repeat' (first|(show cR _ (.seq (.region 3 _ _) _) _ _;(refine F9 15 0 3 rfl rfl rfl ?_;simp only[List.set_cons_zero,List.set_cons_succ,go_sem,simprocAttr]);(refine jj hX 15 2 200 (.tip 3 1 []) rfl rfl rfl (by simp only[go_sem,simprocAttr]) (by decide) (by simp[go_sem,simprocAttr]) ⟨3,1,by decide, .inr rfl⟩ ?_;simp only[List.set_cons_zero,List.set_cons_succ,go_sem,simprocAttr]))|refine Rn.p ?_|((first|refine Rs.p ?_|with_reducible intro K hK|(refine hK _ ?_;clear hK K)|(refine lV [(10000,15)] (yc g (by omega) h.1 hm) ?_ ?_;(focus(simp[go_sem,simprocAttr];done))));try simp only[go_sem,simprocAttr])|with_reducible (apply And.intro)|omega)
 have abj:List.replicate g.n.toNat [D.sc (.int .i64 0)]=(gl g p rev 0).map rI:=by rw[gl,List.map_replicate];rfl
 rw[abj]
 refine ag (fun k:Nat=>k<=g.n.toNat) (fun k=>⟨[(1, .d (.sl 1 (vI p.outs))),(2, .fn F [] []),(7, .ptr 15 0),(9, .ref 20),(22,eN g.n),(23,eN k)], [(15, .box [.d (sT (aY g p rev k).row), .d (vw g), .ref 200]),(200, .tip 3 1 ((aY g p rev k).pl.map rI)),(20, .own 3 1 ((gl g p rev k).map rI))]⟩) (fun k=>g.n.toNat - k) 0 (by omega) ?_ ?_
 ·refine Le.of ?_ ?_<;>simp[go_sem,simprocAttr,aY]
 rintro k hk
 obtain⟨hi,dI,_,hrl⟩:=gZ h rev hk
 have hmul:k*(g.es.length+1)<=64*129:=afQ (by omega) (by omega)
 rcases adj k g.n.toNat with cM|RH
 rotate_left
 ·have hb:decide ((k:Int)<g.n)=false:=ac5 (by omega)
  obtain rfl:k=g.n.toNat:=by omega
  repeat' (first|refine Rn.p ?_|((first|refine Rs.p ?_|with_reducible intro K hK|(refine hK _ ?_;clear hK K));try simp only[go_sem,simprocAttr,hb]))
 have hb:decide ((k:Int)<g.n)=true:=ac6 (by omega)
 obtain⟨hR,hne⟩:=pW h rev cM
 have RJ:=aF hR
 have iF:(gQ g (aY g p rev k)).length<=64:=by have:=Bv (g:=g) (f:=aY g p rev k) (k:=g.n.toNat);unfold gQ;omega
 have hpe:=S9 hm hi.tofL rev
 have hlo:(kz rev (aY g p rev k).row).length=(aY g p rev k).row.length:=by unfold kz;split<;>simp
 have Zt:=Nn (gQ g (aY g p rev k)) (kz rev (aY g p rev k).row) hne (by omega) (by omega)
 rw[hpe]at Zt
 clear hpe
 have hRo:=Nl [vw g,sI (aY g p rev k).pl] (aY g p rev k).row (by omega)
 have Yl:=Yu (aY g p rev k).row (by omega)
 have hRd:=GK g hm (aY g p rev k) (by omega) (by omega)
 have VY:=aW h.2.1 RJ.1 RJ.2.1
 have Ax:=wS h.2.1 RJ.1 RJ.2.1
 have dw:aY g p rev (k+1)=(aC g (aY g p rev k) (ee g (aY g p rev k) rev) (bE p (ee g (aY g p rev k) rev))).2:=rfl
 have hrx:gl g p rev (k+1)=(gl g p rev k).set (ee g (aY g p rev k) rev).toNat (k:Int):=rfl
 have Ib:=sX (g:=g) (p:=p) (rev:=rev) (k:=k)
 generalize ee g (aY g p rev k) rev=x0 at*
 obtain⟨x,rfl⟩:∃x:Nat,x0=x:=⟨x0.toNat,by omega⟩
 have hxl:x<p.outs.length:=by have:=h.2.1.1;omega
 have hv:=jr hxl
 have hla:bE p (x:Int)=p.outs.getD x []:=by unfold bE;rw[Int.toNat_natCast]
 rw[hla]at VY Ax dw
 rw[Int.toNat_natCast]at hrx
 have Jm:=y9 g hm (aY g p rev k) hi (x:Int) (p.outs.getD x []) (by omega) (by omega) (by omega)
 have hpk:jq g (aY g p rev k) (x:Int) (p.outs.getD x [])=aC g (aY g p rev k) (x:Int) (p.outs.getD x []):=by
  unfold jq
  rw[ac7 (by rw[hR];simp),ac7]
  rintro(h|⟨i,h1,h2⟩)
  ·exact h VY.length_eq
  ·exact h2 (VY.mem_iff.2 h1)
 rw[hpk]at Jm
 generalize p.outs.getD x []=o at hv Jm dw
 generalize gQ g (aY g p rev k)=L at Zt hRd iF
 generalize kz rev (aY g p rev k).row=LR at Zt Yl hlo
 generalize hff:aY g p rev (k+1)=f' at dw
 generalize aY g p rev k=f at*
 generalize aC g f (x:Int) o=su at Jm dw
 repeat' (first|(show cR _ (.region 11 _ _) _ _;(refine dY hX 15 2 201 200 rfl rfl rfl (by first|exact .inl rfl|exact .inr rfl) (by decide) (by decide) ?_;simp only[List.set_cons_zero,List.set_cons_succ,go_sem,simprocAttr,hb,hv,Ib,wN,EM,tX]))|refine Rn.p ?_|((first|refine Rs.p ?_|with_reducible intro K hK|(refine hK _ ?_;clear hK K)|(refine fu 29 (hRo) ?_ (by first|exact tV|exact tW|exact tY|exact wO) rfl (by decide) ?_;(focus(simp only[go_sem,simprocAttr,hb,hv,Ib,wN,EM,tX];done)))|(refine aS [(10000,29)] (Yl) ?_ ?_;(focus(simp[go_sem,simprocAttr,hb,hv,Ib,wN,EM,tX];done)))|(refine qI 34 (hRd) ?_ (by first|exact tV|exact tW|exact tY|exact wO) rfl (by decide) ?_;(focus(simp only[go_sem,simprocAttr,hb,hv,Ib,wN,EM,tX];done)))|(refine cr (Zt) ?_ ?_ ?_;iterate 2 (focus(simp only[go_sem,simprocAttr,hb,hv,Ib,wN,EM,tX];done)))|(refine aS [(10000,15),(10001,200),(10002,201)] (Jm) ?_ ?_;(focus(simp[go_sem,simprocAttr,hb,hv,Ib,wN,EM,tX];done))));try simp only[go_sem,simprocAttr,hb,hv,Ib,wN,EM,tX])|with_reducible (apply And.intro)|omega)
 refine⟨k+1,by omega, ?_,by omega⟩
 rw[hrx,hff,dw]
 refine Le.of ?_ ?_<;>simp[go_sem,simprocAttr,hb,hv,Ib,wN,EM,tX,rI]
def VZ(b:Bool)(g:Gr)(p:Pl):List Int × List Int × Int:=
 if(dF b g p).2.1=0/\q8 g=true then(gl g p false g.n.toNat,gl g p true g.n.toNat,0) else([], [],1)
theorem JG(g:Gr)(hl:g.es.length<=1000)(p:Pl)(hp:uc p)(b:Bool)(hr:b=true↔(bX g).1=0/\bq g p):
 Spec Tryz.prog 59 (Args [eG g,ePl p]) [] (.tup [.d (sI (VZ b g p).1), .d (sI (VZ b g p).2.1),eN (VZ b g p).2.2]) []:=by
 have hO:=ig g hl p hp b hr
 have hI:=u5 g hl
 by_cases h0:(dF b g p).2.1=0
 rotate_left
 ·have hK:VZ b g p=([], [],1):=ac7 fun h=>h0 h.1
  have hb0:decide ((dF b g p).2.1=0)=false:=ac5 h0
  rw[hK]
  (refine T.h [] [] [.t 4, .t 5, .t 6] Tryz.func59 rfl rfl (by kernel_rfl) fun X hX hP hC aA bB=> ?_)
  repeat' (first|refine Rn.p ?_|((first|refine Rs.p ?_|with_reducible intro K hK|(refine hK _ ?_;clear hK K)|refine aa (hO) rfl ?_);try simp only[go_sem,simprocAttr,hb0]))
 obtain⟨hrun,hR⟩:=sZ hr h0
 rw[hR]at hO
 simp only at hO
 cases Uo:q8 g with
 |false=>
  have hK:VZ b g p=([], [],1):=ac7 fun h=>by rw[Uo]at h;cases h.2
  rw[hK]
  rw[Uo]at hI
  (refine T.h [] [] [.t 4, .t 5, .t 6] Tryz.func59 rfl rfl (by kernel_rfl) fun X hX hP hC aA bB=> ?_)
  repeat' (first|refine Rn.p ?_|((first|refine Rs.p ?_|with_reducible intro K hK|(refine hK _ ?_;clear hK K)|refine aa (hO) rfl ?_|refine aa (hI) rfl ?_);try simp only[go_sem,simprocAttr]))
 |true=>
  have hK:VZ b g p=(gl g p false g.n.toNat,gl g p true g.n.toNat,0):=ac9 ⟨h0,Uo⟩
  rw[hK]
  rw[Uo]at hI
  have hW0:=DE g p hrun false 105 fun row _=>JE row
  have Vc:=DE g p hrun true 106 fun row hl=>JF row hl
  generalize gl g p false g.n.toNat=R0 at hW0
  generalize gl g p true g.n.toNat=R1 at Vc
  (refine T.h [] [] [.t 4, .t 5, .t 6] Tryz.func59 rfl rfl (by kernel_rfl) fun X hX hP hC aA bB=> ?_)
  repeat' (first|refine Rn.p ?_|((first|refine Rs.p ?_|with_reducible intro K hK|(refine hK _ ?_;clear hK K)|refine aa (hO) rfl ?_|refine aa (hI) rfl ?_|refine aa (hW0) rfl ?_|refine aa (Vc) rfl ?_);try simp only[go_sem,simprocAttr])|with_reducible (refine oD (by kernel_rfl) ?_))
theorem p9{b:Bool}{g:Gr}{p:Pl}(hr:b=true↔(bX g).1=0/\bq g p)(h:aG g p):dF b g p=((gC g p g.n.toNat,bu g p),(0,0)):=by
 obtain rfl:b=true:=hr.2 ⟨h.1,h.2.1⟩
 unfold dF
 rw[ac7 (by simp),jR.2 h.2.2]
 rfl
theorem Ll{b:Bool}{g:Gr}{p:Pl}(hr:b=true↔(bX g).1=0/\bq g p)(h:(tI b g p).2.2=0):qn g p/\tI b g p=(aj g p,bK g p,0):=by
 unfold tI at h ⊢
 split at h
 ·cases h
 rename_i h0
 split at h
 ·cases h
 rename_i h1
 rw[ac7 h0,ac7 h1]
 exact⟨⟨(sZ hr (by simpa using h0)).1,by omega,by omega⟩,rfl⟩
theorem exB(g:Gr)(p:Pl):∃b:Bool,(b=true↔(bX g).1=0/\bq g p):=by
 by_cases h:(bX g).1=0/\bq g p
 ·exact⟨true,by simp[h]⟩
 ·exact⟨false,by simp[h]⟩
structure Fc where
 L:List Int
 R:List Int
 lo:List Int
 hi:List Int
def abk(g:Gr)(p:Pl)(f:Int):Int:=if f= -1 then(cK p g.n.toNat:Int) else f
def fcG(g:Gr)(p:Pl):Fc:=⟨arr (LK g p g.n.toNat) g.es.length,(arr (RK g p (-1) g.n.toNat) g.es.length).map (abk g p),xz p g.n.toNat++ [aq p 0],hiK g p g.n.toNat++ [aq p (g.n.toNat - 1)]⟩
def fc0:Fc:=⟨[], [], [], []⟩
def fcR(b:Bool)(g:Gr)(p:Pl):Fc × Int:=if((dF b g p).2.1=0/\q8 g=true)/\0<g.es.length then(fcG g p,0) else(fc0,1)
def eFc(f:Fc):AV:= .agg [.d (sI f.L), .d (sI f.R), .d (sI f.lo), .d (sI f.hi)]
def acT(l:List Int)(f:Int->Int)(j:Nat):List Int:=(l.take j).map f++l.drop j
end Go.Ab
end
section
set_option maxRecDepth 10000
namespace Go.Ab
open Go.Proofs
section
variable (g:Gr) (p:Pl)
def cN:Nat:=cK p g.n.toNat
def Lf(e:Int):Int:=LK g p g.n.toNat e
def Rf(e:Int):Int:=RK g p (cN g p) g.n.toNat e
def loL:List Int:=xz p g.n.toNat++ [aq p 0]
def hiL:List Int:=hiK g p g.n.toNat++ [aq p (g.n.toNat - 1)]
def loF(f:Int):Int:=(loL g p).getD f.toNat 0
def hiF(f:Int):Int:=(hiL g p).getD f.toNat 0
end
section
variable {g:Gr} {p:Pl}
variable (h:aG g p) (hI:q8 g=true)
include h hI
theorem Yv{a:Int}(ha:(aP g p).Inn a):∃k u b v,k<g.n.toNat/\bt g a=aq p k/\bE p (aq p k)=u++a::b::v:=by
 obtain⟨x,u,b,v,e⟩:=ha
 by_cases hx:fN g x
 ·obtain⟨k,hk,rfl⟩:=cq h.2.1 hx.1 hx.2
  rw[eo hx]at e
  exact⟨k,u,b,v,hk,(B4 h hk e).1,e⟩
 ·rw[oM hx]at e;cases u<;>cases e
theorem Yw{a:Int}(ha:(aP g p).Inn a):∃f:Nat,1<=f/\f<cN g p/\∀r,RK g p r g.n.toNat a=f:=by
 obtain⟨k,u,b,v,hk,_,e⟩:=Yv h hI ha
 have hl:(bE p (aq p k)).length=u.length+(v.length+2):=by rw[e];simp
 have Pq:cK p (k+1)=cK p k+((bE p (aq p k)).length - 1):=rfl
 obtain⟨d,hd⟩:=afz (show k+1<=g.n.toNat by omega)
 have hmo:=z6 (p:=p) (k:=k+1) (d:=d)
 rw[<- hd]at hmo
 have hp:0<cK p k:=Jy
 have Xj:cN g p=cK p g.n.toNat:=rfl
 exact⟨cK p k+u.length,by omega,by omega,fun r=>by rw[td h hk e (by omega) (adg _)];omega⟩
theorem eA:(aP g p).fM (Lf g p) (Rf g p) 0 (cN g p) (loF g p):=by
 have F:=JA h hI (r:=cN g p) (.inr (afP _))
 exact {F with
  new:=fun {x u a b v} e=>by
   obtain⟨h1,h2,h3⟩:=F.new e
   obtain⟨f,_,h5,h6⟩:=Yw h hI (a:=a) ⟨x,u,b,v,e⟩
   have h7:Rf g p a=f:=h6 _
   have h8:RK g p (cN g p) g.n.toNat a=f:=h6 _
   refine⟨?_,h2,h3⟩
   rw[h8]at h1
   show(xz p g.n.toNat++ [aq p 0]).getD (Rf g p a).toNat 0=x
   rw[h7, <- h1,Int.toNat_natCast,qR (by rw[rJ];exact h5)]}
end
end Go.Ab
end
section
namespace Go.Ab
open Go.Proofs
set_option maxRecDepth 10000
def No(q:Nat->Bool):Nat->Nat
 |0=>0
 |n+1=>No q n ||| (if q n then 2 ^ n else 0)
theorem qa{q:Nat->Bool}{y:Nat} :∀ {n:Nat},(No q n).testBit y=(decide (y<n)&&q y)
 |0=>by simp[No]
 |n+1=>by
  rw[No,afS,qa]
  by_cases h:y=n
  ·subst h
   cases hq:q y<;>simp[agV]
  ·have h2:(if q n then 2 ^ n else 0).testBit y=false:=by
    split
    ·rw[Nat.testBit_two_pow];exact ac5 fun e=>h e.symm
    ·simp
   rw[h2,afp]
   congr 1
   rw[decide_eq_decide];omega
theorem Ta{q:Nat->Bool}{n:Nat} :No q n<2 ^ n:=by
 refine agS _ fun i hi=> ?_
 rw[qa,ac5 (by omega)];rfl
inductive xR (g:Gr) (both:Bool) (c:Nat->Bool) (x:Nat):Nat->Prop
 |refl:xR g both c x x
 |fwd {i:Nat} :i<g.es.length->c i=true->xR g both c x (tl g i).toNat->xR g both c x (hd g i).toNat
 |Tb {i:Nat} :i<g.es.length->c i=true->both=true->xR g both c x (hd g i).toNat->xR g both c x (tl g i).toNat
theorem xR.trans{g:Gr}{both:Bool}{c:Nat->Bool}{x y z:Nat}(h1:xR g both c x y)(h2:xR g both c y z):xR g both c x z:=by
 induction h2 with
 |refl=>exact h1
 |fwd a b _ ih=>exact .fwd a b ih
 |Tb a b d _ ih=>exact .Tb a b d ih
open Classical in
noncomputable def Zu (g:Gr) (both:Bool) (c:Nat->Bool) (x:Nat):Nat:=No (fun y=>decide (xR g both c x y)) g.n.toNat
noncomputable def JH (g:Gr) (both:Bool) (c:Nat->Bool):List Nat:=(List.range g.n.toNat).map (Zu g both c)
theorem z7{g:Gr}{both:Bool}{c:Nat->Bool} :(JH g both c).length=g.n.toNat:=by simp[JH]
theorem JI{g:Gr}{both:Bool}{c:Nat->Bool}{x:Nat}(h:x<g.n.toNat):(JH g both c).getD x 0=Zu g both c x:=by
 simp[JH,aas,adp h]
open Classical in
theorem Lm{g:Gr}{both:Bool}{c:Nat->Bool}{x y:Nat} :(Zu g both c x).testBit y=true↔y<g.n.toNat/\xR g both c x y:=by
 unfold Zu
 rw[qa]
 simp
def cn(g:Gr)(both:Bool)(c:Nat->Bool)(a:List Nat):Nat->List Nat × Bool
 |0=>(a,false)
 |k+1=>
  let s:=cn g both c a k
  if c k=true then
   let t:=s.1.getD (tl g k).toNat 0 ||| s.1.getD (hd g k).toNat 0
   let h:=if both=true then t else s.1.getD (hd g k).toNat 0
   ((s.1.set (tl g k).toNat t).set (hd g k).toNat h,s.2||(decide (t≠s.1.getD (tl g k).toNat 0)||decide (h≠s.1.getD (hd g k).toNat 0)))
  else s
theorem yD{g:Gr}{both:Bool}{c:Nat->Bool}{a:List Nat} :∀ {k:Nat},(cn g both c a k).1.length=a.length
 |0=>rfl
 |k+1=>by
  simp only[cn]
  split
  ·simp[yD]
  ·exact yD
theorem tf{l:List Nat}{i j:Nat}{a:Nat}(hi:i<l.length):(l.set i a).getD j 0=if j=i then a else l.getD j 0:=by
 rw[aas,aea]
 by_cases h:i=j
 ·subst h;rw[ac9 rfl,ac9 hi,ac9 rfl];rfl
 ·rw[ac7 h,ac7 (Ne.symm h), <- List.getD_eq_getElem?_getD]
structure N6 (g:Gr) (both:Bool) (c:Nat->Bool) (a:List Nat):Prop where
 len:a.length=g.n.toNat
 own:∀x,x<g.n.toNat->(a.getD x 0).testBit x=true
 snd:∀x y,x<g.n.toNat->(a.getD x 0).testBit y=true->y<g.n.toNat/\xR g both c x y
theorem N6.lt{g:Gr}{both:Bool}{c:Nat->Bool}{a:List Nat}(h:N6 g both c a)(hn:g.n.toNat<=64)(x:Nat):a.getD x 0<18446744073709551616:=by
 by_cases hx:x<g.n.toNat
 ·have:a.getD x 0<2 ^ 64:=agS _ fun i hi=>by
   cases hb:(a.getD x 0).testBit i with
   |false=>rfl
   |true=>have:=(h.snd x i hx hb).1;omega
  simpa using this
 ·rw[aas,ado (by rw[h.len];omega)];simp
theorem grow_step{g:Gr}(hm:aM g=true){both:Bool}{c:Nat->Bool}{a:List Nat}(h:N6 g both c a){i:Nat}(hi:i<g.es.length)(hc:c i=true):
 N6 g both c ((a.set (tl g i).toNat (a.getD (tl g i).toNat 0 ||| a.getD (hd g i).toNat 0)).set (hd g i).toNat (if both=true then a.getD (tl g i).toNat 0 ||| a.getD (hd g i).toNat 0 else a.getD (hd g i).toNat 0))/\
 ∀x y,(a.getD x 0).testBit y=true->(((a.set (tl g i).toNat (a.getD (tl g i).toNat 0 ||| a.getD (hd g i).toNat 0)).set (hd g i).toNat (if both=true then a.getD (tl g i).toNat 0 ||| a.getD (hd g i).toNat 0 else a.getD (hd g i).toNat 0)).getD x 0).testBit y=true:=by
 obtain⟨ht,hh⟩:=cU hm hi
 have ht:0<=tl g i/\tl g i<g.n:=ht
 have hh:0<=hd g i/\hd g i<g.n:=hh
 have hl:=h.len
 have vo:∀x,((a.set (tl g i).toNat (a.getD (tl g i).toNat 0 ||| a.getD (hd g i).toNat 0)).set (hd g i).toNat (if both=true then a.getD (tl g i).toNat 0 ||| a.getD (hd g i).toNat 0 else a.getD (hd g i).toNat 0)).getD x 0=
  if x=(hd g i).toNat then(if both=true then a.getD (tl g i).toNat 0 ||| a.getD (hd g i).toNat 0 else a.getD (hd g i).toNat 0) else if x=(tl g i).toNat then a.getD (tl g i).toNat 0 ||| a.getD (hd g i).toNat 0 else a.getD x 0:=fun x=>by
  rw[tf (by rw[adP];omega),tf (by omega)]
 have mono:∀x y,(a.getD x 0).testBit y=true->(((a.set (tl g i).toNat (a.getD (tl g i).toNat 0 ||| a.getD (hd g i).toNat 0)).set (hd g i).toNat (if both=true then a.getD (tl g i).toNat 0 ||| a.getD (hd g i).toNat 0 else a.getD (hd g i).toNat 0)).getD x 0).testBit y=true:=fun x y hb=>by
  rw[vo]
  split
  ·rename_i e;subst e
   split
   ·rw[afS,hb,afn]
   ·exact hb
  ·split
   ·rename_i e;subst e
    rw[afS,hb,afd]
   ·exact hb
 refine⟨⟨by simp[hl],fun x hx=>mono x x (h.own x hx),fun x y hx hb=> ?_⟩,mono⟩
 have e1:xR g both c (tl g i).toNat (hd g i).toNat:= .fwd hi hc .refl
 rw[vo]at hb
 split at hb
 ·rename_i e;subst e
  split at hb
  ·rename_i hbo
   rw[afS,adK]at hb
   rcases hb with hb|hb
   ·obtain⟨g1,g2⟩:=h.snd _ _ (by omega) hb
    exact⟨g1,(xR.Tb hi hc hbo .refl).trans g2⟩
   ·exact h.snd _ _ hx hb
  ·exact h.snd _ _ hx hb
 ·split at hb
  ·rename_i e;subst e
   rw[afS,adK]at hb
   rcases hb with hb|hb
   ·exact h.snd _ _ hx hb
   ·obtain⟨g1,g2⟩:=h.snd _ _ (by omega) hb
    exact⟨g1,e1.trans g2⟩
  ·exact h.snd _ _ hx hb
theorem lH{g:Gr}(hm:aM g=true){both:Bool}{c:Nat->Bool}{a:List Nat}(h:N6 g both c a):∀ {k:Nat},k<=g.es.length->N6 g both c (cn g both c a k).1/\∀x y,(a.getD x 0).testBit y=true->((cn g both c a k).1.getD x 0).testBit y=true
 |0,_=>⟨h,fun x y hb=>hb⟩
 |k+1,hk=>by
  obtain⟨i1,i2⟩:=lH hm h (k:=k) (by omega)
  simp only[cn]
  by_cases hc:c k=true
  ·rw[ac9 hc]
   obtain⟨j1,j2⟩:=grow_step hm i1 (i:=k) (by omega) hc
   exact⟨j1,fun x y hb=>j2 x y (i2 x y hb)⟩
  ·rw[ac7 hc];exact⟨i1,i2⟩
def B8(a:List Nat):Nat:=a.foldr (· + ·) 0
theorem Ln:∀ {a b:List Nat},a.length=b.length->(∀x,a.getD x 0<=b.getD x 0)->a≠b->B8 a<B8 b
 | [], [],_,_,hne=>absurd rfl hne
 |x::a,y::b,hl,h,hne=>by
  have h0:=h 0
  have hr:∀i,a.getD i 0<=b.getD i 0:=fun i=>by simpa using h (i+1)
  simp only[afl]at h0
  show x+B8 a<y+B8 b
  by_cases hab:a=b
  ·subst hab
   have:x≠y:=fun e=>hne (by rw[e])
   omega
  ·have:=Ln (a:=a) (b:=b) (by simpa using hl) hr hab
   omega
theorem Hs{m:Nat} :∀ {a:List Nat},(∀x,a.getD x 0<m)->B8 a<=a.length*m
 | [],_=>by simp[B8]
 |x::a,h=>by
  have h0:=h 0
  have:=Hs (a:=a) fun i=>by simpa using h (i+1)
  simp only[afl]at h0
  show x+B8 a<=(a.length+1)*m
  rw[ad6];omega
theorem u9{a b:Nat}(h:∀y,a.testBit y=true->b.testBit y=true):a<=b:=by
 have:a ||| b=b:=Nat.eq_of_testBit_eq fun y=>by
  rw[afS]
  cases ha:a.testBit y with
  |false=>simp
  |true=>rw[h y ha];rfl
 rw[<- this];exact Nat.left_le_or
theorem mE{g:Gr}{both:Bool}{c:Nat->Bool}{a:List Nat} :∀ {k:Nat},(cn g both c a k).2=false->(cn g both c a k).1=a/\∀i,i<k->c i=true->(a.getD (tl g i).toNat 0 ||| a.getD (hd g i).toNat 0=a.getD (tl g i).toNat 0)/\(both=true->a.getD (tl g i).toNat 0=a.getD (hd g i).toNat 0)
 |0,_=>⟨rfl,fun i hi=>by omega⟩
 |k+1,h=>by
  simp only[cn]at h ⊢
  by_cases hc:c k=true
  ·rw[ac9 hc]at h ⊢
   simp only[aep,adL,afI]at h
   obtain⟨h1,h2,h3⟩:=h
   obtain⟨i1,i2⟩:=mE h1
   rw[i1]at h2 h3
   simp only[i1]
   have fR:∀ {l:List Nat} {i v:Nat},v=l.getD i 0->l.set i v=l:=fun {l i v} e=>by
    refine adY fun j=> ?_
    rw[aea]
    split
    ·rename_i hj;subst hj
     split
     ·rename_i hl;rw[e,aas,acF hl];rfl
     ·rename_i hl;rw[ado (by omega)]
    ·rfl
   refine⟨by rw[fR h2,fR h3],fun i hi V3=> ?_⟩
   by_cases hik:i=k
   ·subst hik
    refine⟨h2,fun hb=> ?_⟩
    rw[ac9 hb]at h3
    rw[<- h2,h3]
   ·exact i2 i (by omega) V3
  ·rw[ac7 hc]at h ⊢
   obtain⟨i1,i2⟩:=mE h
   refine⟨i1,fun i hi V3=> ?_⟩
   by_cases hik:i=k
   ·subst hik;exact absurd V3 hc
   ·exact i2 i (by omega) V3
theorem JJ{g:Gr}(hm:aM g=true){both:Bool}{c:Nat->Bool}{a:List Nat}(h:N6 g both c a)(hne:(cn g both c a g.es.length).2=true):B8 a<B8 (cn g both c a g.es.length).1:=by
 obtain⟨_,i2⟩:=lH hm h (adg g.es.length)
 refine Ln yD.symm (fun x=>u9 (i2 x)) fun e=> ?_
 have key:∀k,k<=g.es.length->(cn g both c a k).2=false:=by
  intro k
  induction k with
  |zero=>intro _;rfl
  |succ k ih=>
   intro hk
   have ih:=ih (by omega)
   have hak:=(mE ih).1
   simp only[cn]
   by_cases hc:c k=true
   ·rw[ac9 hc]
    simp only[aep,adL,afI,ih,hak,true_and]
    obtain⟨j1,j2⟩:=lH hm h (k:=k) (by omega)
    have later:∀d,k+1+d<=g.es.length->∀x y,((cn g both c a (k+1)).1.getD x 0).testBit y=true->((cn g both c a (k+1+d)).1.getD x 0).testBit y=true:=by
     intro d
     induction d with
     |zero=>intro _ x y hb;exact hb
     |succ d ihd=>
      intro hd x y hb
      have hb:=ihd (by omega) x y hb
      show((cn g both c a (k+1+d+1)).1.getD x 0).testBit y=true
      simp only[cn]at hb ⊢
      split
      ·rename_i Pq
       exact(grow_step hm (lH hm h (k:=k+1+d) (by omega)).1 (i:=k+1+d) (by omega) Pq).2 x y hb
      ·exact hb
    have zu:=later (g.es.length - (k+1)) (by omega)
    rw[show k+1+(g.es.length - (k+1))=g.es.length by omega, <- e]at zu
    have Ao:(cn g both c a (k+1)).1=(a.set (tl g k).toNat (a.getD (tl g k).toNat 0 ||| a.getD (hd g k).toNat 0)).set (hd g k).toNat (if both=true then a.getD (tl g k).toNat 0 ||| a.getD (hd g k).toNat 0 else a.getD (hd g k).toNat 0):=by
     simp only[cn];rw[ac9 hc,hak]
    obtain⟨ht,hh⟩:=cU hm (k:=k) (by omega)
    have ht:0<=tl g k/\tl g k<g.n:=ht
    have hh:0<=hd g k/\hd g k<g.n:=hh
    have hl:=h.len
    have vo:∀x,(cn g both c a (k+1)).1.getD x 0=if x=(hd g k).toNat then(if both=true then a.getD (tl g k).toNat 0 ||| a.getD (hd g k).toNat 0 else a.getD (hd g k).toNat 0) else if x=(tl g k).toNat then a.getD (tl g k).toNat 0 ||| a.getD (hd g k).toNat 0 else a.getD x 0:=fun x=>by
     rw[Ao,tf (by rw[adP];omega),tf (by omega)]
    have g1:(if both=true then a.getD (tl g k).toNat 0 ||| a.getD (hd g k).toNat 0 else a.getD (hd g k).toNat 0)=a.getD (hd g k).toNat 0:=by
     have:=u9 (zu (hd g k).toNat)
     rw[vo,ac9 rfl]at this
     split at this
     ·rename_i hb
      rw[ac9 hb]
      exact ag0 this Nat.right_le_or
     ·rename_i hb;rw[ac7 hb]
    refine⟨?_,g1⟩
    by_cases heq:(tl g k).toNat=(hd g k).toNat
    ·rw[heq,Nat.or_self]
    ·have:=u9 (zu (tl g k).toNat)
     rw[vo,ac7 heq,ac9 rfl]at this
     exact ag0 this Nat.left_le_or
   ·rw[ac7 hc];exact ih
 rw[key _ (adg _)]at hne
 cases hne
theorem Np{g:Gr}(hm:aM g=true){both:Bool}{c:Nat->Bool}{a:List Nat}(h:N6 g both c a)(hne:(cn g both c a g.es.length).2=false):a=JH g both c:=by
 obtain⟨_,hcl⟩:=mE hne
 have comp:∀x y,x<g.n.toNat->xR g both c x y->∀w,w<g.n.toNat->xR g both c w x->True:=fun _ _ _ _ _ _ _=>trivial
 have key:∀ {x y:Nat},xR g both c x y->∀z,(a.getD y 0).testBit z=true->(a.getD x 0).testBit z=true:=by
  intro x y hR
  induction hR with
  |refl=>exact fun z hz=>hz
  | @fwd i hi hc _ ih=>
    intro z hz
    refine ih z ?_
    rw[<- (hcl i hi hc).1,afS,hz,afn]
  | @Tb i hi hc hb _ ih=>
    intro z hz
    refine ih z ?_
    rw[<- (hcl i hi hc).2 hb];exact hz
 refine adY fun x=> ?_
 by_cases hx:x<g.n.toNat
 ·have e:a.getD x 0=(JH g both c).getD x 0:=by
   rw[JI hx]
   refine Nat.eq_of_testBit_eq fun y=> ?_
   rw[ad0,Lm]
   refine⟨h.snd x y hx,fun ⟨h1,h2⟩=>key h2 y (h.own y h1)⟩
  rw[aas,aas,acF (by rw[h.len];exact hx),acF (by rw[z7];exact hx)]at e
  rw[acF (by rw[h.len];exact hx),acF (by rw[z7];exact hx)]
  simpa using e
 ·rw[ado (by rw[h.len];omega),ado (by rw[z7];omega)]
end Go.Ab
end
section
set_option maxHeartbeats 8000000
set_option maxRecDepth 20000
namespace Go.Ab
attribute [local congr] ACall.congr gd.congr Ny.congr vcOps.congr
open Go.Proofs
def rU(n:Nat):List D:= [.sc (.int .u64 (n:Int))]
def eU(n:Nat):AV:= .d (.sc (.int .u64 (n:Int)))
def sU(l:List Nat):D:= .sl 1 (l.map rU)
theorem getD_rU(ps:List Nat)(i:Nat):(ps.map rU).getD i [.sc (.int .u64 0)]= [.sc (.int .u64 ((ps.getD i 0:Nat):Int))]:=by
 rw[aas,adm,aas]
 cases ps[i]? <;>rfl
theorem yE(l:List Nat)(k:Nat)(v:Nat):(l.map rU).set k [.sc (.int .u64 (v:Int))]=(l.set k v).map rU:=by
 rw[aeR];rfl
attribute [go_sem] eU sU getD_rU InU
theorem Tc{s x:Nat} :decide ((((s >>> x &&& 1:Nat)):Int)=1)=s.testBit x:=by
 rw[ad0,adb,Nat.testBit,Nat.and_comm]
 have:1 &&& s >>> x=0\/1 &&& s >>> x=1:=by
  rw[Nat.and_comm,Nat.and_one_is_mod];omega
 rcases this with h|h<;>rw[h]<;>simp
theorem Nq(s:Nat)(hs:s<18446744073709551616)(x:Int):Spec Tryz.prog 151 (Args [eU s,eN x]) [] (eB (decide (0<=x)&&decide (x<64)&&s.testBit x.toNat)) []:=by
 by_cases h0:0<=x
 rotate_left
 ·have hb0:decide (0<=x)=false:=ac5 h0
  (refine T.h [] [] [.t 4] Tryz.func151 rfl rfl (by kernel_rfl) fun X hX hP hC aA bB=> ?_)
  repeat' (first|refine Rn.p ?_|((first|refine Rs.p ?_|with_reducible intro K hK|(refine hK _ ?_;clear hK K));try simp only[go_sem,simprocAttr,hb0]))
 have hb0:decide (0<=x)=true:=ac6 h0
 by_cases h1:x<64
 rotate_left
 ·have hb1:decide (x<64)=false:=ac5 h1
  (refine T.h [] [] [.t 4] Tryz.func151 rfl rfl (by kernel_rfl) fun X hX hP hC aA bB=> ?_)
  repeat' (first|refine Rn.p ?_|((first|refine Rs.p ?_|with_reducible intro K hK|(refine hK _ ?_;clear hK K));try simp only[go_sem,simprocAttr,hb0,hb1]))
 have hb1:decide (x<64)=true:=ac6 h1
 obtain⟨i,rfl⟩:∃i:Nat,x=i:=⟨x.toNat,by omega⟩
 have hlt:s >>> i<18446744073709551616:=Nat.lt_of_le_of_lt (Nat.shiftRight_le s i) hs
 have ha:=Tc (s:=s) (x:=i)
 generalize hq:s >>> i=q at hlt ha
 (refine T.h [] [] [.t 4] Tryz.func151 rfl rfl (by kernel_rfl) fun X hX hP hC aA bB=> ?_)
 repeat' (first|refine Rn.p ?_|((first|refine Rs.p ?_|with_reducible intro K hK|(refine hK _ ?_;clear hK K));try simp only[go_sem,simprocAttr,hb0,hb1,hq,ha])|with_reducible (apply And.intro)|omega)
theorem QV(x:Nat)(hx:x<64):Spec Tryz.prog 192 (Args [.d (.sl 1 [[.sc (.int .i64 (x:Int))]])]) [] (eU (2 ^ x)) []:=by
 have hsh:1 <<< x % 18446744073709551616=2 ^ x:=by
  rw[Nat.shiftLeft_eq,Nat.one_mul,aeB]
  exact afb (Nat.pow_lt_pow_right (by decide) hx) (by decide)
 have hlt:2 ^ x<18446744073709551616:=afb (Nat.pow_lt_pow_right (by decide) hx) (by decide)
 have hb1:decide (0<=(x:Int))=true:=ac6 (by omega)
 have hb2:decide ((x:Int)<64)=true:=ac6 (by omega)
 (refine T.h [] [] [.t 2] Tryz.func192 rfl rfl (by kernel_rfl) fun X hX hP hC aA bB=> ?_)
 repeat' (first|refine Rn.p ?_|((first|refine Rs.p ?_|with_reducible intro K hK|(refine hK _ ?_;clear hK K));try simp only[go_sem,simprocAttr]))
 refine ag (fun k:Nat=>k<=1) (fun k=>⟨[(2,eU (if k=0 then 0 else 2 ^ x)),(5, .d (.sl 1 [[.sc (.int .i64 (x:Int))]])),(6,eN 1),(7,eN k)], []⟩) (fun k=>1 - k) 0 (by omega) ?_ ?_
 ·refine Le.of ?_ ?_<;>simp[go_sem,simprocAttr]
 rintro k hk
 match k,hk with
 |0,_=>
  repeat' (first|refine Rn.p ?_|((first|refine Rs.p ?_|with_reducible intro K hK|(refine hK _ ?_;clear hK K));try simp only[go_sem,simprocAttr,hsh,hb1,hb2,Nat.zero_or])|with_reducible (apply And.intro)|omega)
  all_goals(refine⟨1,by omega, ?_,by omega⟩)
  all_goals(refine Le.of ?_ ?_<;>simp[go_sem,simprocAttr,hsh,hb1,hb2,Nat.zero_or])
 |1,_=>
  repeat' (first|refine Rn.p ?_|((first|refine Rs.p ?_|with_reducible intro K hK|(refine hK _ ?_;clear hK K));try simp only[go_sem,simprocAttr]))
def yF(k:Nat):List Nat:=(List.range k).map fun x=>2 ^ x
theorem Ns{k:Nat} :yF (k+1)=yF k++ [2 ^ k]:=by simp[yF,adV]
theorem B9{k:Nat} :(yF k).length=k:=by simp[yF]
def nr(g:Gr):List Nat:=if aM g=true then yF g.n.toNat else []
theorem JK(g:Gr)(hl:g.es.length<=9223372036854775807):Spec Tryz.prog 148 (Args [eG g]) [] (.ref 10000) [(10000, .own 208 1 ((nr g).map rU))]:=by
 have hM:=qJ g hl
 cases hm:aM g with
 |false=>
  rw[hm]at hM
  have he:nr g= []:=by unfold nr;rw[hm];rfl
  rw[he]
  (refine T.hR [200,17] [] [.t 2] [(10000,200)] Tryz.func148 rfl rfl (by kernel_rfl) fun X hX hP hC aA bB=> ?_)
  repeat' (first|(show cR _ .ret _ _;(try simp only[go_sem,simprocAttr]);refine dQ hX 2 200 (.own 208 1 []) ?_ ?_ (by decide) ⟨208,1,by decide, .inl rfl⟩ ?_;(iterate 2 (focus(simp only[go_sem,simprocAttr];done)));simp only[go_sem,simprocAttr])|refine Rn.p ?_|((first|refine Rs.p ?_|with_reducible intro K hK|(refine hK _ ?_;clear hK K)|refine aa (hM) rfl ?_);try simp only[go_sem,simprocAttr]))
 |true=>
  rw[hm]at hM
  have hn:=aB hm
  have he:nr g=yF g.n.toNat:=by unfold nr;rw[ac9 hm]
  rw[he]
  (refine T.hR [200,17] [] [.t 2] [(10000,200)] Tryz.func148 rfl rfl (by kernel_rfl) fun X hX hP hC aA bB=> ?_)
  repeat' (first|(show cR _ (.seq (.region 3 _ _) _) _ _;(refine dQ hX 2 200 (.own 208 1 []) ?_ ?_ (by decide) ⟨208,1,by decide, .inl rfl⟩ ?_;(iterate 2 (focus(simp only[go_sem,simprocAttr];done)));simp only[go_sem,simprocAttr]))|refine Rn.p ?_|((first|refine Rs.p ?_|with_reducible intro K hK|(refine hK _ ?_;clear hK K)|refine aa (hM) rfl ?_);try simp only[go_sem,simprocAttr]))
  refine ag (fun k:Nat=>k<=g.n.toNat) (fun k=>⟨[(2, .ref 200),(8,eN g.n),(9,eN k)], [(200, .own 208 1 ((yF k).map rU))]⟩) (fun k=>g.n.toNat - k) 0 (by omega) ?_ ?_
  ·refine Le.of ?_ ?_<;>simp[go_sem,simprocAttr,yF]
  rintro k hk
  rcases adj k g.n.toNat with hlt|hge
  ·have hb:decide ((k:Int)<g.n)=true:=ac6 (by omega)
   have Ax:=B9 (k:=k)
   have dw:=Ns (k:=k)
   have hO1:=QV k (by omega)
   generalize yF k=O1 at Ax dw
   repeat' (first|(show cR _ (.region 7 _ _) _ _;(refine uC hX 2 17 200 (by simp only[go_sem,simprocAttr,hb,Ax]) rfl (by first|exact .inl rfl|exact .inr rfl) (by decide) ?_;simp only[go_sem,simprocAttr,hb,Ax]))|refine Rn.p ?_|((first|refine Rs.p ?_|with_reducible intro K hK|(refine hK _ ?_;clear hK K)|(refine dN (hO1) ?_ rfl ?_;(focus(simp only[go_sem,simprocAttr,hb,Ax];done))));try simp only[go_sem,simprocAttr,hb,Ax])|with_reducible (apply And.intro)|omega)
   refine⟨k+1,by omega, ?_,by omega⟩
   rw[dw]
   refine Le.of ?_ ?_<;>simp[go_sem,simprocAttr,hb,Ax,rU]
  ·have hb:decide ((k:Int)<g.n)=false:=ac5 (by omega)
   obtain rfl:k=g.n.toNat:=by omega
   repeat' (first|refine Rn.p ?_|((first|refine Rs.p ?_|with_reducible intro K hK|(refine hK _ ?_;clear hK K));try simp only[go_sem,simprocAttr,hb]))
theorem neU{a b:Nat} :(!decide ((a:Int)=(b:Int)))=decide (a≠b):=by
 by_cases h:a=b
 ·simp[h]
 ·simp[h];omega
theorem Td{g:Gr}(hn:g.n.toNat<=64)(both:Bool)(c:Nat->Bool):∃M:Nat,∀b:List Nat,N6 g both c b->B8 b<=M:=
 ⟨_,fun b hb=>by have:=Hs (a:=b) fun x=>hb.lt hn x;rw[hb.len]at this;exact this⟩
theorem tY{l:List Nat} :∀r∈l.map rU,∀x∈r,∃v,x=D.sc v:=by
 intro r hr x hx
 obtain⟨y,_,rfl⟩:=ada.1 hr
 simp only[rU,adu]at hx
 exact⟨_,hx⟩
theorem Nt{g:Gr}(hm:aM g=true){both:Bool}{c:Nat->Bool} :N6 g both c (nr g):=by
 have he:nr g=yF g.n.toNat:=by unfold nr;rw[ac9 hm]
 have qy:∀x,x<g.n.toNat->(yF g.n.toNat).getD x 0=2 ^ x:=fun x hx=>by simp[yF,aas,adp hx]
 rw[he]
 refine⟨B9,fun x hx=>by rw[qy x hx,agV],fun x y hx hb=> ?_⟩
 rw[qy x hx,Nat.testBit_two_pow]at hb
 have:x=y:=aek hb
 subst this
 exact⟨hx, .refl⟩
noncomputable def frL (g:Gr):List Nat:=if aM g=true then JH g false (fun _=>true) else []
end Go.Ab
end
section
set_option maxRecDepth 10000
namespace Go.Ab
open Go.Proofs
theorem Fa{P:PS}{x y:Int} :P.gD x y↔P.Lp P.tl P.hd x y:=by
 constructor<;>intro hp
 ·induction hp with
  |refl=>exact .refl
  |step _ he ih=>exact .step ih he
 ·induction hp with
  |refl=>exact .refl
  |step _ he ih=>exact .step ih he
def acU(s:Nat)(x:Int):Bool:=decide (0<=x)&&decide (x<64)&&s.testBit x.toNat
section
variable {P:PS} (h:P.Ok) {L R:Int->Int} {f0 f1:Int} {low:Int->Int} (F:P.fM L R f0 f1 low)
def fcN(P:PS)(R:Int->Int)(f:Int):Nat->Nat
 |0=>0
 |j+1=>if R (P.sh j)=f then j+1 else fcN P R f j
include h F
end
section
variable (g:Gr) (p:Pl)
def faG:Gr:=⟨(cN g p:Int)+1,(List.range g.es.length).map fun i:Nat=>(Lf g p i,Rf g p i)⟩
end
section
variable {g:Gr} {p:Pl}
variable (h:aG g p) (hI:q8 g=true)
include h hI
end
end Go.Ab
end
section
set_option maxHeartbeats 32000000
set_option maxRecDepth 20000
namespace Go.Ab
attribute [local congr] ACall.congr gd.congr Ny.congr vcOps.congr
open Go.Proofs
def grF(f:Fc)(k:Nat):List Edge:=(List.range k).map fun i:Nat=>(f.L.getD i 0,f.R.getD i 0)
def acV(b:Bool)(g:Gr)(p:Pl):Bool:= !BO g p&&q8 g&&decide ((dF b g p).2.1=0)&&decide (0<(g.es.length:Int))&&decide ((g.es.length:Int)<=60)
def g18:Gr:=⟨4, [(0,1),(1,3),(0,2),(2,3)]⟩
def p18:Pl:=⟨[0,1,2,3], [[0,2], [1], [3], []]⟩
structure Br where
 y:List Int
 fr:List Int
 to:List Int
 x:List Int
def eBr(b:Br):AV:= .agg [.d (sI b.y), .d (sI b.fr), .d (sI b.to), .d (sI b.x)]
section
variable (g:Gr) (p:Pl)
def Zv(f:Int):Int:=(lvL (faG g p)).getD f.toNat 0
def xEd(e:Int):Int:=Zv g p (Lf g p e)
def frV(l:List Int):Int:=if l= [] then 0 else Zv g p (Lf g p (l.getD 0 0))
def toV(l:List Int):Int:=(if l= [] then Zv g p (cN g p) else Zv g p (Rf g p (l.getD (l.length - 1) 0))) - 1
def brG:Br:=⟨lvL g,p.outs.map (frV g p),p.outs.map (toV g p),arr (xEd g p) g.es.length⟩
end
def hasB(b:Br)(x:Nat)(q:Int):Bool:=decide (b.fr.getD x 0<=q)&&decide (q<=b.to.getD x 0)
def apA(b:Br)(x z:Nat):Bool:=decide (b.y.getD z 0=b.y.getD x 0)&&decide (b.fr.getD z 0<=b.to.getD x 0)&&decide (b.fr.getD x 0<=b.to.getD z 0)
def apX(b:Br)(x:Nat):Bool:=decide (b.fr.getD x 0<=b.to.getD x 0)&&(List.range x).all fun z=> !apA b x z
def V4(b:Br):Bool:=(List.range b.y.length).all (apX b)
def Up(b:Br)(g:Gr):Bool:=decide ((b.y.length:Int)=g.n)&&decide ((b.fr.length:Int)=g.n)&&decide ((b.to.length:Int)=g.n)&&decide ((b.x.length:Int)=(g.es.length:Int))
def clO(b:Br)(lo hi q:Int)(x:Nat):Bool:=decide (lo<b.y.getD x 0)&&decide (b.y.getD x 0<hi)&&hasB b x q
def QW(b:Br)(s t:Nat)(q:Int):Bool:=decide (b.y.getD s 0<b.y.getD t 0)&&hasB b s q&&hasB b t q&&(List.range b.y.length).all fun x=> !clO b (b.y.getD s 0) (b.y.getD t 0) q x
def riP(g:Gr)(b:Br)(i k:Nat):Bool:=decide (b.x.getD k 0=b.x.getD i 0)&&decide (b.y.getD (tl g i).toNat 0<b.y.getD (hd g k).toNat 0)&&decide (b.y.getD (tl g k).toNat 0<b.y.getD (hd g i).toNat 0)
def riE(g:Gr)(b:Br)(i:Nat):Bool:=QW b (tl g i).toNat (hd g i).toNat (b.x.getD i 0)&&(List.range i).all fun k=> !riP g b i k
def Yx(g:Gr)(b:Br):Bool:=decide ((bX g).1=0)&&Up b g&&V4 b&&(List.range g.es.length).all (riE g b)
def rpA(b:Br)(x z:Nat):Bool:= !decide ((x:Int)=(z:Int))&&decide (b.y.getD x 0=b.y.getD z 0)&& !(decide (b.to.getD x 0<b.fr.getD z 0)||decide (b.to.getD z 0<b.fr.getD x 0))
def rpX(b:Br)(n x:Nat):Bool:=decide (b.fr.getD x 0<=b.to.getD x 0)&&(List.range n).all fun z=> !rpA b x z
def rpP(g:Gr)(b:Br)(i k:Nat):Bool:= !decide ((k:Int)=(i:Int))&&decide (b.x.getD k 0=b.x.getD i 0)&& !(decide (b.y.getD (hd g i).toNat 0<=b.y.getD (tl g k).toNat 0)||decide (b.y.getD (hd g k).toNat 0<=b.y.getD (tl g i).toNat 0))
def rpE(g:Gr)(b:Br)(i:Nat):Bool:=QW b (tl g i).toNat (hd g i).toNat (b.x.getD i 0)&&(List.range g.es.length).all fun k=> !rpP g b i k
def WT(g:Gr)(b:Br):Bool:=decide ((bX g).1=0)&&Up b g&&(List.range b.y.length).all (rpX b b.y.length)&&(List.range g.es.length).all (rpE g b)
end Go.Ab
end
section
set_option maxHeartbeats 32000000
set_option maxRecDepth 20000
namespace Go.Ab
attribute [local congr] ACall.congr gd.congr Ny.congr vcOps.congr
open Go.Proofs
end Go.Ab
end
section
set_option maxHeartbeats 8000000
set_option maxRecDepth 20000
namespace Go.Ab
attribute [local congr] ACall.congr gd.congr Ny.congr vcOps.congr
open Go.Proofs
def abW(g:Gr)(b:Br):Bool:=decide (80<(g.es.length:Int))||decide (70<(b.y.length:Int))||decide (70<(b.fr.length:Int))||decide (70<(b.to.length:Int))||decide (80<(b.x.length:Int))
end Go.Ab
end
section
set_option maxRecDepth 10000
namespace Go.Ab
open Go.Proofs
structure V5 (g:Gr) (b:Br):Prop where
 AA:(bX g).1=0
 ly:(b.y.length:Int)=g.n
 lf:(b.fr.length:Int)=g.n
 lt:(b.to.length:Int)=g.n
 lx:b.x.length=g.es.length
 bar:∀v,v<b.y.length->b.fr.getD v 0<=b.to.getD v 0
 apart:∀v,v<b.y.length->∀z,z<v->¬(b.y.getD z 0=b.y.getD v 0/\b.fr.getD z 0<=b.to.getD v 0/\b.fr.getD v 0<=b.to.getD z 0)
 up:∀i,i<g.es.length->b.y.getD (tl g i).toNat 0<b.y.getD (hd g i).toNat 0/\(b.fr.getD (tl g i).toNat 0<=b.x.getD i 0/\b.x.getD i 0<=b.to.getD (tl g i).toNat 0)/\(b.fr.getD (hd g i).toNat 0<=b.x.getD i 0/\b.x.getD i 0<=b.to.getD (hd g i).toNat 0)
 clear:∀i,i<g.es.length->∀v,v<b.y.length->¬(b.y.getD (tl g i).toNat 0<b.y.getD v 0/\b.y.getD v 0<b.y.getD (hd g i).toNat 0/\b.fr.getD v 0<=b.x.getD i 0/\b.x.getD i 0<=b.to.getD v 0)
 abX:∀i,i<g.es.length->∀k,k<i->¬(b.x.getD k 0=b.x.getD i 0/\b.y.getD (tl g i).toNat 0<b.y.getD (hd g k).toNat 0/\b.y.getD (tl g k).toNat 0<b.y.getD (hd g i).toNat 0)
def abY(b:Br):Br:=⟨b.y.map fun y=>3*y - 7,(List.range b.y.length).map fun v=>5*b.fr.getD v 0+1,(List.range b.y.length).map fun v=>5*b.to.getD v 0+2,b.x.map fun x=>5*x+1⟩
def abZ(b:Br):Br:=⟨b.y,(List.range b.y.length).map fun v=> -b.to.getD v 0,(List.range b.y.length).map fun v=> -b.fr.getD v 0,b.x.map fun x=> -x⟩
def yB(b:Br)(v:Int):Int:=b.y.getD v.toNat 0
def fB(b:Br)(v:Int):Int:=b.fr.getD v.toNat 0
def tB(b:Br)(v:Int):Int:=b.to.getD v.toNat 0
def xB(b:Br)(e:Int):Int:=b.x.getD e.toNat 0
def ltB(b:Br)(u v:Int):Prop:=yB b u<yB b v\/yB b u=yB b v/\fB b u<fB b v
structure QX (g:Gr) (b:Br) (p:Pl):Prop where
 perm:p.ord.Perm (dD g.n.toNat)
 sort:p.ord.Pairwise (ltB b)
 len:p.outs.length=g.n.toNat
 outs:∀x:Nat,x<g.n.toNat->(p.outs.getD x []).Perm (b8 g x)
 Lo:∀x:Nat,x<g.n.toNat->(p.outs.getD x []).Pairwise fun i k=>xB b i<xB b k
section
variable {g:Gr} {b:Br} {p:Pl} (h:V5 g b) (hp:QX g b p)
include hp
theorem QX.ok:bq g p:=⟨hp.len,hp.perm,hp.outs⟩
theorem QX.lt{j k:Nat}(hj:j<k)(hk:k<g.n.toNat):ltB b (aq p j) (aq p k):=by
 have hl:=aI hp.ok
 have:=aeh.1 hp.sort j k (by omega) (by omega) hj
 rw[aq,aq,aas,aas,acF (by omega),acF (by omega)]
 exact this
include h
end
end Go.Ab
end
section
set_option maxHeartbeats 16000000
set_option maxRecDepth 20000
namespace Go.Ab
attribute [local congr] ACall.congr gd.congr Ny.congr vcOps.congr
open Go.Proofs
def ab0(l:List Int)(k:Nat):List Int:=(List.range l.length).map fun p=>if p<k\/l.length - 1<p+k then l.getD (l.length - 1 - p) 0 else l.getD p 0
theorem xA(ps:List Int)(hl:ps.length<=1000000):
 Spec Tryz.prog 44 (Args [.d (sI ps)]) [] (.ref 10000) [(10000, .own 3 1 (ps.map rI))]:=by
 (refine T.hR [5,7] [] [.t 2] [(10000,7)] Tryz.func44 rfl rfl (by kernel_rfl) fun X hX hP hC aA bB=> ?_)
 repeat' (first|(show cR _ .ret _ _;(try simp only[go_sem,simprocAttr]);refine dQ hX 2 7 (.own 3 1 []) ?_ ?_ (by decide) ⟨3,1,by decide, .inl rfl⟩ ?_;(iterate 2 (focus(simp only[go_sem,simprocAttr];done)));simp only[go_sem,simprocAttr])|refine Rn.p ?_|((first|refine Rs.p ?_|with_reducible intro K hK|(refine hK _ ?_;clear hK K));try simp only[go_sem,simprocAttr])|with_reducible (first|apply And.intro|(intro h;try simp only[go_sem,simprocAttr]at h))|omega)
 exact h.symm
theorem Ht(f:Edge->Int)(g:Gr)(hm:aM g=true)(x:Int)(hx:0<=x/\x<g.n):Spec Tryz.prog 128 (Args [.d (vw g), .d (.sl 1 (RP f g)),eN x]) [] (.ref 10000) [(10000, .own 3 1 ((aJ f g.es g.es.length x).map rI))]:=by
 rw[cm]
 have hn:=aB hm
 have hl':(aJ f g.es g.es.length x).length<=1000000:=by have:=iU (f:=f) (es:=g.es) (k:=g.es.length) (x:=x);omega
 have hv:=qO (f:=f) (g:=g) (x:=x.toNat) (by omega)
 have he:gU f g.es g.es.length x.toNat=aJ f g.es g.es.length x:=by rw[oe,show((x.toNat:Nat):Int)=x from by omega]
 rw[he]at hv
 have hb1:decide (x<0)=false:=ac5 (by omega)
 have hb2:decide (g.n<=x)=false:=ac5 (by omega)
 have Zh:=xA (aJ f g.es g.es.length x) hl'
 (refine T.hR [] [] [.t 6] [(10000,22)] Tryz.func128 rfl rfl (by kernel_rfl) fun X hX hP hC aA bB=> ?_)
 repeat' (first|refine Rn.p ?_|((first|refine Rs.p ?_|with_reducible intro K hK|(refine hK _ ?_;clear hK K)|(refine fu 22 (Zh) ?_ (by first|exact tV|exact tW|exact tY|exact wO) rfl (by decide) ?_;(focus(simp only[go_sem,simprocAttr,hv,hb1,hb2];done))));try simp only[go_sem,simprocAttr,hv,hb1,hb2])|with_reducible (apply And.intro)|omega)
theorem JL(g:Gr)(hm:aM g=true)(x:Int)(hx:0<=x/\x<g.n):Spec Tryz.prog 73 (Args [.d (vw g),eN x]) [] (.ref 10000) [(10000, .own 3 1 ((b8 g x).map rI))]:=by
 have hT:=Ht (·.1) g hm x hx
 (refine T.hR [] [] [.t 4] [(10000,11)] Tryz.func73 rfl rfl (by kernel_rfl) fun X hX hP hC aA bB=> ?_)
 repeat' (first|refine Rn.p ?_|((first|refine Rs.p ?_|with_reducible intro K hK|(refine hK _ ?_;clear hK K)|(refine fu 11 (hT) ?_ (by first|exact tV|exact tW|exact tY|exact wO) rfl (by decide) ?_;(focus(simp only[go_sem,simprocAttr,cm];done))));try simp only[go_sem,simprocAttr,cm]))
 rfl
section
open Go.RowKit Go.Shelf Go.Sort Go.Lib
def cfX(b:Br)(i k:Int):Int:=compareInt (xB b i) (xB b k)
def cfY(b:Br)(u v:Int):Int:=if compareInt (yB b u) (yB b v)=0 then compareInt (fB b u) (fB b v) else compareInt (yB b u) (yB b v)
theorem Lq{x y:Int} :compareInt x y<0↔x<y:=by
 unfold compareInt
 split
 ·simp[*]
 ·split<;>simp<;>omega
theorem Lr{x y:Int} :compareInt x y=0↔x=y:=by
 unfold compareInt
 split
 ·simp;omega
 ·split<;>simp<;>omega
def brC(b:Br):List AV:= [.d (sI b.y), .d (sI b.fr), .d (sI b.to), .d (sI b.x)]
theorem cI{w W:World}{b o:Nat}{blk:Nat}(hW:∀b,b<w.heap.size->b≠blk->W.heap[b]? =w.heap[b]?)(hb:b<w.heap.size)(hne:b≠blk):W.cell? ⟨b,o,none⟩=w.cell? ⟨b,o,none⟩:=by
 simp only[World.cell?,hW b hb hne]
end
end Go.Ab
end
section
set_option maxHeartbeats 16000000
set_option maxRecDepth 20000
namespace Go.Ab
attribute [local congr] ACall.congr gd.congr Ny.congr vcOps.congr
open Go.Proofs
section
open Go.RowKit Go.Shelf Go.Sort Go.Lib
def Zw(d:Dr)(x i k:Int):Int:= -(sd (eD d x) (jv d k) (jv d i))
def Zx(d:Dr)(u v:Int):Int:=if compareInt (eD d u).2 (eD d v).2=0 then compareInt (eD d u).1 (eD d v).1 else compareInt (eD d u).2 (eD d v).2
def JM(d:Dr)(u v:Int):Prop:=(eD d u).2<(eD d v).2\/((eD d u).2=(eD d v).2/\(eD d u).1<(eD d v).1)
theorem JN{d:Dr}{x i k:Int} :Zw d x i k<0↔mD d x i k:=by
 unfold Zw mD yy sd jh
 split
 ·omega
 ·split<;>omega
theorem JO{d:Dr}{u v:Int} :Zx d u v<0↔JM d u v:=by
 unfold Zx JM
 by_cases h:(eD d u).2=(eD d v).2
 ·rw[ac9 (Lr.2 h),Lq];omega
 ·rw[ac7 (fun e=>h (Lr.1 e)),Lq];omega
theorem Ls{w:World}{z:Nat->Nat}{v:Value}{l:List Pt}(h:Rd w z v (sP l))(hne:l≠ []):∃b off cap,v= .slice (some ⟨b,off,none⟩) l.length cap/\b<w.heap.size/\0<z b/\∀j,j<l.length->w.cell? ⟨b,off+j*2,none⟩=some (.int .i64 (l.getD j (0,0)).1)/\w.cell? ⟨b,off+j*2+1,none⟩=some (.int .i64 (l.getD j (0,0)).2):=by
 generalize hx:sP l=x at h
 cases h with
 |sc v h=>cases hx
 |pt b off cells vs hz hc hr=>cases hx
 |nil p sz=>
  simp only[sP,D.sl.injEq,aeF]at hx
  exact absurd hx.2 hne
 |sl b off n cap sz rows vs hn hsz hz hcap hc hr=>
  simp only[sP,D.sl.injEq]at hx
  obtain⟨rfl,rfl⟩:=hx
  rw[adn]at hn
  subst hn
  have hpos:0<l.length:=ae6.2 hne
  refine⟨b,off,cap,rfl, ?_,by omega,fun j hj=>⟨?_, ?_⟩⟩
  ·have:=hc 0 (by omega)
   by_cases hlt:b<w.heap.size
   ·exact hlt
   ·exfalso
    simp[World.cell?,aeg (agn hlt)]at this
  ·have h1:=hc (j*2+0) (by omega)
   have h2:=hr j 0 (rP l[j]) (.sc (.int .i64 l[j].1)) (by simp[acF hj]) rfl
   have h3:=mq h2
   simp only[Nat.add_zero]at h1 h3
   rw[h1,h3]
   simp[aas,acF hj]
  ·have h1:=hc (j*2+1) (by omega)
   have h2:=hr j 1 (rP l[j]) (.sc (.int .i64 l[j].2)) (by simp[acF hj]) rfl
   have h3:=mq h2
   rw[af3,h1,h3]
   simp[aas,acF hj]
theorem V6{w:World}{z:Nat->Nat}{v:Value}{l:List (List Pt)}(h:Rd w z v (sLn l))(hne:l≠ []):∃b off cap,v= .slice (some ⟨b,off,none⟩) l.length cap/\b<w.heap.size/\0<z b/\∀j,j<l.length->∃u,w.cell? ⟨b,off+j,none⟩=some u/\Rd w z u (sP (l.getD j [])):=by
 generalize hx:sLn l=x at h
 cases h with
 |sc v h=>cases hx
 |pt b off cells vs hz hc hr=>cases hx
 |nil p sz=>
  simp only[sLn,vP,D.sl.injEq,aeF]at hx
  exact absurd hx.2 hne
 |sl b off n cap sz rows vs hn hsz hz hcap hc hr=>
  simp only[sLn,vP,D.sl.injEq]at hx
  obtain⟨rfl,rfl⟩:=hx
  rw[adn]at hn
  subst hn
  have hpos:0<l.length:=ae6.2 hne
  refine⟨b,off,cap,rfl, ?_,by omega,fun j hj=> ?_⟩
  ·have:=hc 0 (by omega)
   by_cases hlt:b<w.heap.size
   ·exact hlt
   ·exfalso
    simp[World.cell?,aeg (agn hlt)]at this
  ·have h1:=hc j (by omega)
   have h2:=hr j 0 [sP l[j]] (sP l[j]) (by simp[acF hj]) rfl
   simp only[af6,Nat.add_zero]at h2
   refine⟨_,h1, ?_⟩
   rw[aas,acF hj]
   exact h2
def CL(d:Dr):List AV:= [.d (sP d.pts), .d (sLn d.ls)]
theorem QY{d:Dr}{w:World}{E:Env}{vs:List Value}(h:AVrs w E (CL d) vs):∃v0 v1,vs= [v0,v1]/\Rd w E.z v0 (sP d.pts)/\Rd w E.z v1 (sLn d.ls):=by
 obtain⟨v0,r0,rfl,h0,h⟩:=h
 obtain⟨v1,r1,rfl,h1,h⟩:=h
 simp only[AVrs]at h
 subst h
 exact⟨v0,v1,rfl,h0,h1⟩
theorem JP{g:Gr}{d:Dr}(R:yx g d){x:Int}(hx0:0<=x/\x<g.n){l l':List Int}(S:N5 (Zw d x) l l')(hl:∀i∈l,0<=i/\i<g.es.length)(hlen:l.length<=1000000):
 Spec Tryz.prog 74 (Args [.ref 10000, .fn 75 [] [.ptr 10001 0, .ptr 10002 0]]) [(10000, .own 3 1 (l.map rI)),(10001, .box (CL d)),(10002, .box [eN x])] (.tup []) [(10000, .own 3 1 (l'.map rI)),(10001, .box (CL d)),(10002, .box [eN x])]:=by
 refine Hl S hlen (enters_of Tryz.func75 (by kernel_rfl) rfl) ?_
 intro w E B Xb blk v1 v2 e1 e2 hB hX hA M8 hne ER hz W hsz hW i hi k hk
 obtain⟨va,vb,rfl,ha,hb⟩:=QY hA
 obtain⟨xv,r2,rfl,hxv,tQ⟩:=M8
 simp only[AVrs]at tQ
 subst tQ
 have WQ:xv= .int .i64 x:=bN hxv
 subst WQ
 have hi2:=hl i hi
 have hk2:=hl k hk
 have hnl:=R.nl
 have hnp:=R.np
 obtain⟨bp,op,cp,rfl,g1,g2,g3⟩:=Ls ha (fun e=>by rw[e]at hnp;simp at hnp;omega)
 obtain⟨bl,ol,cl,rfl,g4,g5,g6⟩:=V6 hb (fun e=>by rw[e]at hnl;simp at hnl;omega)
 have RW:B<w.heap.size:=(adq.1 hB).1
 have Uj:Xb<w.heap.size:=(adq.1 hX).1
 obtain⟨ui,c1,r1⟩:=g6 i.toNat (by omega)
 obtain⟨uk,c2,r2⟩:=g6 k.toNat (by omega)
 have li:=R.len _ (iN R hi2.1 hi2.2)
 have lk:=R.len _ (iN R hk2.1 hk2.2)
 obtain⟨bi,oi,ci,rfl,i1,i2,i3⟩:=Ls r1 (fun e=>by have:(ff d i).length=0:=by unfold ff;rw[e];rfl
                                                 omega)
 obtain⟨bk,ok,ck,rfl,k1,k2,k3⟩:=Ls r2 (fun e=>by have:(ff d k).length=0:=by unfold ff;rw[e];rfl
                                                 omega)
 have nz:∀b,0<E.z b->b≠blk:=fun b hb e=>by rw[e]at hb;omega
 have hq:=g3 x.toNat (by omega)
 have hqi:=i3 1 (by show 1<(ff d i).length;omega)
 have Sy:=k3 1 (by show 1<(ff d k).length;omega)
 have Ig:(d.ls.getD i.toNat []).getD 1 (0,0)=jv d i:=rfl
 have hfk:(d.ls.getD k.toNat []).getD 1 (0,0)=jv d k:=rfl
 rw[Ig]at hqi
 rw[hfk]at Sy
 have iP:bC (eD d x):=R.Zn _ (az (by omega))
 have iI:bC (jv d i):=R.qx _ (iN R hi2.1 hi2.2) _ (az (by omega))
 have iK:bC (jv d k):=R.qx _ (iN R hk2.1 hk2.2) _ (az (by omega))
 have hc:=VT W B Xb bp op d.pts.length cp bl ol d.ls.length cl x.toNat i.toNat k.toNat bi oi (d.ls.getD i.toNat []).length ci bk ok (d.ls.getD k.toNat []).length ck (eD d x) (jv d i) (jv d k) iP iI iK
  (by rw[cI hW RW hne];simp[World.cell?,hB]) (by rw[cI hW RW hne];simp[World.cell?,hB]) (by rw[cI hW Uj ER];simp[World.cell?,hX];omega)
  (by omega) (by omega) (by omega) (by show 1<(ff d i).length;omega) (by show 1<(ff d k).length;omega)
  (by rw[cI hW g1 (nz _ g2)];exact hq.1) (by rw[cI hW g1 (nz _ g2)];exact hq.2)
  (by rw[cI hW g4 (nz _ g5)];exact c1) (by rw[cI hW g4 (nz _ g5)];exact c2)
  (by rw[cI hW i1 (nz _ i2)];exact hqi.1) (by rw[cI hW i1 (nz _ i2)];exact hqi.2) (by rw[cI hW k1 (nz _ k2)];exact Sy.1) (by rw[cI hW k1 (nz _ k2)];exact Sy.2)
 rw[show((i.toNat:Nat):Int)=i by omega,show((k.toNat:Nat):Int)=k by omega]at hc
 exact hc
theorem JQ{g:Gr}{d:Dr}(R:yx g d){l l':List Int}(S:N5 (Zx d) l l')(hl:∀i∈l,0<=i/\i<g.n)(hlen:l.length<=1000000):
 Spec Tryz.prog 74 (Args [.ref 10000, .fn 77 [] [.ptr 10001 0]]) [(10000, .own 3 1 (l.map rI)),(10001, .box (CL d))] (.tup []) [(10000, .own 3 1 (l'.map rI)),(10001, .box (CL d))]:=by
 refine Ju S hlen (enters_of Tryz.func77 (by kernel_rfl) rfl) rfl ?_
 intro w E B blk vs e hB hA hne hz W hsz hW i hi k hk
 obtain⟨va,vb,rfl,ha,hb⟩:=QY hA
 have hi2:=hl i hi
 have hk2:=hl k hk
 have hnp:=R.np
 obtain⟨bp,op,cp,rfl,g1,g2,g3⟩:=Ls ha (fun e=>by rw[e]at hnp;simp at hnp;omega)
 have RW:B<w.heap.size:=(adq.1 hB).1
 have nz:∀b,0<E.z b->b≠blk:=fun b hb e=>by rw[e]at hb;omega
 have hqi:=g3 i.toNat (by omega)
 have Sy:=g3 k.toNat (by omega)
 have hc:=VU W B bp op d.pts.length cp i.toNat k.toNat (eD d i) (eD d k) (by rw[cI hW RW hne];simp[World.cell?,hB]) (by omega) (by omega)
  (by rw[cI hW g1 (nz _ g2)];exact hqi.1) (by rw[cI hW g1 (nz _ g2)];exact hqi.2) (by rw[cI hW g1 (nz _ g2)];exact Sy.1) (by rw[cI hW g1 (nz _ g2)];exact Sy.2)
 rw[show((i.toNat:Nat):Int)=i by omega,show((k.toNat:Nat):Int)=k by omega]at hc
 exact hc
end
structure ug (g:Gr) (d:Dr) (p:Pl):Prop where
 perm:p.ord.Perm (dD g.n.toNat)
 sort:p.ord.Pairwise (JM d)
 len:p.outs.length=g.n.toNat
 outs:∀x:Nat,x<g.n.toNat->(p.outs.getD x []).Perm (b8 g x)
 Lo:∀x:Nat,x<g.n.toNat->(p.outs.getD x []).Pairwise (mD d x)
theorem Nu{g:Gr}{d:Dr}{p:Pl}(hp:ug g d p){x:Nat}(hx:x<g.n.toNat):N5 (Zw d x) (b8 g x) (p.outs.getD x []):=
 {perm:=(hp.outs x hx).symm,nd:=b7,ord:=(hp.Lo x hx).imp fun h=>⟨JN.2 h,fun h2=>xw h (JN.1 h2)⟩,Zq:=fun i _ h=>by have:=JN.1 h;exact xw this this}
theorem QZ{g:Gr}{d:Dr}{p:Pl}(hp:ug g d p):N5 (Zx d) (dD g.n.toNat) p.ord:=
 {perm:=hp.perm.symm,nd:=jM,ord:=hp.sort.imp fun h=>⟨JO.2 h,fun h2=>by have:=JO.1 h2;unfold JM at*;omega⟩,Zq:=fun i _ h=>by have:=JO.1 h;unfold JM at this;omega}
end Go.Ab
end
