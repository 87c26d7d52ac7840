/- A part of the proof. -/
import Derived.Test.YtameldglfobjkaaGreatL6P17
set_option linter.unusedSimpArgs false
set_option linter.unusedVariables false
section
set_option maxHeartbeats 8000000
set_option maxRecDepth 10000
namespace Go.Ab
attribute [local congr] ACall.congr gd.congr Ny.congr vcOps.congr
open Go.Proofs
def MF(e:Edge)(x:Int):Bool:=decide (x=e.1)||decide (x=e.2)
def uN(g:Gr)(d:Dr)(i k:Nat)(m:Nat):List Pt:=(([(g.es.getD i (0,0)).1,(g.es.getD i (0,0)).2].take m).filter (MF (g.es.getD k (0,0)))).map fun x=>d.pts.getD x.toNat (0,0)
def gW(g:Gr)(d:Dr)(i k:Nat):List Pt:=uN g d i k 2
theorem PN{g:Gr}{d:Dr}{i k:Nat} :(gW g d i k).length<=2:=by
 unfold gW uN
 rw[adn]
 exact aej (aeH _ _) (by simp)
theorem PO{g:Gr}{d:Dr}{i k m:Nat} :(uN g d i k m).length<=2:=by
 unfold uN
 rw[adn]
 refine aej (aeH _ _) ?_
 rw[adG];simp;omega
theorem Vs{g:Gr}{d:Dr}{i k:Nat} :uN g d i k 1=uN g d i k 0++if(g.es.getD i (0,0)).1=(g.es.getD k (0,0)).1\/(g.es.getD i (0,0)).1=(g.es.getD k (0,0)).2 then [d.pts.getD (g.es.getD i (0,0)).1.toNat (0,0)] else []:=by
 simp only[uN,List.take_succ_cons,List.take_zero,List.filter_nil,adO,List.nil_append,aeD,MF,adK,adb]
 split<;>rfl
theorem Vt{g:Gr}{d:Dr}{i k:Nat} :uN g d i k 2=uN g d i k 1++if(g.es.getD i (0,0)).2=(g.es.getD k (0,0)).1\/(g.es.getD i (0,0)).2=(g.es.getD k (0,0)).2 then [d.pts.getD (g.es.getD i (0,0)).2.toNat (0,0)] else []:=by
 simp only[uN,List.take_succ_cons,List.take_zero,List.filter_nil,adO,List.nil_append,aeD,MF,adK,adb]
 split<;>split<;>rfl
theorem yX(g:Gr)(d:Dr)(h:x8 g d)(i k:Nat)(hi:i<g.es.length)(hk:k<g.es.length):Spec Tryz.prog 123 (Args [.ptr 10000 0,eN i,eN k]) [(10000,lkO g d)] (.d (sP (gW g d i k))) [(10000,lkO g d)]:=by
 have hn:=aB h.may
 have hnp:=h.np
 obtain⟨⟨Pg,yL⟩,Cu,yM⟩:=cU h.may hi
 obtain⟨⟨Ay,Ao⟩,hk2,WH⟩:=cU h.may hk
 unfold lkO
 (refine T.h [] [] [.t 6] Tryz.func123 rfl rfl (by kernel_rfl) fun X hX hP hC aA bB=> ?_)
 repeat' (first|refine Rn.p ?_|((first|refine Rs.p ?_|with_reducible intro K hK|(refine hK _ ?_;clear hK K));try simp only[go_sem,simprocAttr])|with_reducible (first|apply And.intro|refine oD (by kernel_rfl) ?_)|omega)
 (refine dQ hX 6 55 (.tip 54 2 []) (by simp only[go_sem,simprocAttr]) (by simp only[go_sem,simprocAttr]) (by decide) ⟨54,2,by decide, .inr rfl⟩ ?_;simp only[go_sem,simprocAttr])
 refine ag (fun m:Nat=>m<=2) (fun m=>⟨[(0, .ptr 10000 0),(8, .ptr 8 0),(31, .agg [eN (g.es.getD i (0,0)).1,eN (g.es.getD i (0,0)).2]),(32,eN m),(6, .ref 55)], [(55, .tip 54 2 ((uN g d i k m).map rP)),(8, .box [eN (g.es.getD k (0,0)).1,eN (g.es.getD k (0,0)).2]),(10000,lkO g d)]⟩) (fun m=>2 - m) 0 (by omega) ?_ ?_
 ·refine Le.of ?_ ?_<;>simp[go_sem,simprocAttr,uN]
 rintro m hm
 have hlen:=PO (g:=g) (d:=d) (i:=i) (k:=k) (m:=m)
 match m,hm with
 |0,_=>
  have hx:=Vs (g:=g) (d:=d) (i:=i) (k:=k)
  repeat' (first|refine Rn.p ?_|((first|refine Rs.p ?_|with_reducible intro K hK|(refine hK _ ?_;clear hK K));try simp only[go_sem,simprocAttr])|with_reducible (first|apply And.intro|(intro h;try simp only[go_sem,simprocAttr]at h))|omega)
  all_goals(refine⟨1,by omega, ?_,by omega⟩;first|rw[ac9 (by omega)]at hx|rw[ac7 (by omega)]at hx)
  all_goals(refine Le.of ?_ ?_<;>simp[go_sem,simprocAttr,hx,rP])
 |1,_=>
  have hx:=Vt (g:=g) (d:=d) (i:=i) (k:=k)
  repeat' (first|refine Rn.p ?_|((first|refine Rs.p ?_|with_reducible intro K hK|(refine hK _ ?_;clear hK K));try simp only[go_sem,simprocAttr])|with_reducible (first|apply And.intro|(intro h;try simp only[go_sem,simprocAttr]at h))|omega)
  all_goals(refine⟨2,by omega, ?_,by omega⟩;first|rw[ac9 (by omega)]at hx|rw[ac7 (by omega)]at hx)
  all_goals(refine Le.of ?_ ?_<;>simp[go_sem,simprocAttr,hx,rP])
 |2,_=>
  repeat' (first|refine Rn.p ?_|((first|refine Rs.p ?_|with_reducible intro K hK|(refine hK _ ?_;clear hK K));try simp only[go_sem,simprocAttr]))
  rfl
 |m+3,hm=>omega
theorem wg{α:Type}{f:α->Bool}{xs:List α}(d:α){k:Nat}(h1:k<xs.length)(h:(xs.take k).all f=true)(he:f (xs.getD k d)=true):(xs.take (k+1)).all f=true:=by
 rw[ad1,List.all_append,h,acF h1]
 simp only[aas,acF h1,Option.getD_some]at he
 simp[he]
theorem mW{α:Type}{f:α->Bool}{xs:List α}{d:α}{k:Nat}(h1:k<xs.length)(he:f (xs.getD k d)=false):xs.all f=false:=by
 rw[List.all_eq_false]
 exact⟨_,az h1,by rw[he];simp⟩
def robQ2(a b:Pc):List (Nat × AObj):= [(10000, .rob [eN a.1.1,eN a.1.2,eN a.2.1,eN a.2.2]),(10001, .rob [eN b.1.1,eN b.1.2,eN b.2.1,eN b.2.2])]
theorem PR(a b:Pc):cC (robQ2 a b):=⟨by simp[robQ2,AObj.ro],by simp[robQ2,nodupM,look],by simp[robQ2],by simp[robQ2,AObj.ids,AV.ids,AV.idss,eN]⟩
attribute [go_sem] robQ2
theorem Gv(a b:Pc)(p:Pt):Spec Tryz.prog 125 (Args [eP p, .ptr 10000 0, .ptr 10001 0]) (robQ2 a b) (eB (nG a.1 a.2 p&&nG b.1 b.2 p)) (robQ2 a b):=by
 unfold robQ2
 (refine T.h [] [] [.t 4] Tryz.func125 rfl rfl (by kernel_rfl) fun X hX hP hC aA bB=> ?_)
 repeat' (first|refine Rn.p ?_|((first|refine Rs.p ?_|with_reducible intro K hK|(refine hK _ ?_;clear hK K)|refine aa (Eu a.1 a.2 p) rfl ?_|refine aa (Eu b.1 b.2 p) rfl ?_);try simp only[go_sem,simprocAttr])|with_reducible (first|apply And.intro|(intro h;try simp only[go_sem,simprocAttr]at h)))
 all_goals simp[*]
def dH(es:List Pt)(a b:Pc):Bool:=decide (1<fF a.1 a.2 b.1 b.2)||(decide (fF a.1 a.2 b.1 b.2=1)&& !es.any fun p=>nG a.1 a.2 p&&nG b.1 b.2 p)
def jm(g:Gr)(d:Dr)(i m:Nat):Bool:=(List.range m).all fun k=>(fe (d.ls.getD i [])).all fun a=>(fe (d.ls.getD k [])).all fun b=> !dH (gW g d i k) a b
def fZ(g:Gr)(d:Dr)(i:Nat):Bool:=jm g d i i
theorem yY{g:Gr}{d:Dr}{i m:Nat} :jm g d i (m+1)=(jm g d i m&&(fe (d.ls.getD i [])).all fun a=>(fe (d.ls.getD m [])).all fun b=> !dH (gW g d i m) a b):=by
 simp[jm,adV]
theorem Gw(g:Gr)(d:Dr)(hD:x8 g d)(i:Nat)(hi:i<g.es.length):Spec Tryz.prog 72 (Args [.ptr 10000 0,eN i]) [(10000,lkO g d)] (eB (fZ g d i)) [(10000,lkO g d)]:=by
 have hn:=aB hD.may
 have hnp:=hD.np
 have hnl:=hD.nl
 obtain⟨h2,h8⟩:=hD.line hi
 have h1:1<=(d.ls.getD i []).length:=by omega
 have hl:(d.ls.getD i []).length<=1000000:=by omega
 have dI:(fe (d.ls.getD i [])).length=(d.ls.getD i []).length - 1:=fW
 unfold lkO
 (refine T.h [] [] [.t 4] Tryz.func72 rfl rfl (by kernel_rfl) fun X hX hP hC aA bB=> ?_)
 repeat' (first|refine Rn.p ?_|((first|refine Rs.p ?_|with_reducible intro K hK|(refine hK _ ?_;clear hK K));try simp only[go_sem,simprocAttr]))
 refine ag (fun k:Nat=>k<=i/\jm g d i k=true) (fun k=>⟨[(0, .ptr 10000 0),(1,eN i),(13,eN i),(14,eN k)], [(10000,lkO g d)]⟩) (fun k=>i - k) 0 (by simp[jm]) ?_ ?_
 ·(refine Le.of ?_ ?_<;>simp[go_sem,simprocAttr])
 rintro k ⟨hk,hf⟩
 rcases adj k i with hlt|hge
 ·have hb:decide ((k:Int)<(i:Int))=true:=ac6 (by omega)
  have cM:k<g.es.length:=by omega
  obtain⟨NU,h8'⟩:=hD.line cM
  have CO:1<=(d.ls.getD k []).length:=by omega
  have hl':(d.ls.getD k []).length<=1000000:=by omega
  have tD:(fe (d.ls.getD k [])).length=(d.ls.getD k []).length - 1:=fW
  have hcl:(gW g d i k).length<=9223372036854775807:=by have:=PN (g:=g) (d:=d) (i:=i) (k:=k);omega
  have dw:=yY (g:=g) (d:=d) (i:=i) (m:=k)
  rw[hf,aeo]at dw
  repeat' (first|refine Rn.p ?_|((first|refine Rs.p ?_|with_reducible intro K hK|(refine hK _ ?_;clear hK K)|(first|(refine aR (EA g d) (yX g d hD i k hi cM) ?_ rfl rfl ?_;(focus(first|exact fun p hp=>aL (cC.nd (EA g d)) hp|(simp[go_sem,simprocAttr,hb];done))))|(refine aR (EA g d) (yX g d hD i k hi cM) ?_ ?_ rfl ?_;(focus(first|exact fun p hp=>aL (cC.nd (EA g d)) hp|(simp[go_sem,simprocAttr,hb];done)));(focus(simp[go_sem,simprocAttr,hb];done))))|refine aa (mV (d.ls.getD i []) h1 hl) rfl ?_);try simp only[go_sem,simprocAttr,hb])|with_reducible (apply And.intro)|omega)
  refine ag (fun s:Nat=>s<=(fe (d.ls.getD i [])).length/\((fe (d.ls.getD i [])).take s).all (fun a=>(fe (d.ls.getD k [])).all fun b=> !dH (gW g d i k) a b)=true) (fun s=>⟨[(0, .ptr 10000 0),(1,eN i),(13,eN i),(14,eN k),(5,eN k),(6, .d (sP (gW g d i k))),(29, .d (sQ (fe (d.ls.getD i [])))),(30,eN (fe (d.ls.getD i [])).length),(31,eN s)], [(10000,lkO g d)]⟩) (fun s=>(fe (d.ls.getD i [])).length - s) 0 (by simp) ?_ ?_
  ·(refine⟨bS ?_,fun _ _ h=>h⟩;simp[go_sem,simprocAttr,hb])
  rintro s ⟨hs,hsa⟩
  rcases adj s (fe (d.ls.getD i [])).length with CR|Wr
  ·have hb1:decide ((s:Int)<((fe (d.ls.getD i [])).length:Int))=true:=ac6 (by omega)
   obtain⟨a,ha⟩:∃a,a=(fe (d.ls.getD i [])).getD s ((0,0),(0,0)):=⟨_,rfl⟩
   repeat' (first|refine Rn.p ?_|((first|refine Rs.p ?_|with_reducible intro K hK|(refine hK _ ?_;clear hK K)|refine aa (mV (d.ls.getD k []) CO hl') rfl ?_);try simp only[go_sem,simprocAttr,hb1, <- ha])|with_reducible (apply And.intro)|omega)
   refine ag (fun t:Nat=>t<=(fe (d.ls.getD k [])).length/\((fe (d.ls.getD k [])).take t).all (fun b=> !dH (gW g d i k) a b)=true) (fun t=>⟨[(0, .ptr 10000 0),(1,eN i),(13,eN i),(14,eN k),(5,eN k),(6, .d (sP (gW g d i k))),(29, .d (sQ (fe (d.ls.getD i [])))),(30,eN (fe (d.ls.getD i [])).length),(31,eN s),(8, .ptr 8 0),(43, .d (sQ (fe (d.ls.getD k [])))),(44,eN (fe (d.ls.getD k [])).length),(45,eN t)], [(8, .box [eN a.1.1,eN a.1.2,eN a.2.1,eN a.2.2]),(10000,lkO g d)]⟩) (fun t=>(fe (d.ls.getD k [])).length - t) 0 (by simp) ?_ ?_
   ·(refine Le.of ?_ ?_<;>simp[go_sem,simprocAttr,hb1, <- ha])
   rintro t ⟨ht,RT⟩
   rcases adj t (fe (d.ls.getD k [])).length with htl|htg
   ·have hb2:decide ((t:Int)<((fe (d.ls.getD k [])).length:Int))=true:=ac6 (by omega)
    obtain⟨b,Uf⟩:∃b,b=(fe (d.ls.getD k [])).getD t ((0,0),(0,0)):=⟨_,rfl⟩
    have uz:dH (gW g d i k) a b=(decide (1<fF a.1 a.2 b.1 b.2)||(decide (fF a.1 a.2 b.1 b.2=1)&& !(gW g d i k).any fun p=>nG a.1 a.2 p&&nG b.1 b.2 p)):=rfl
    have hno:dH (gW g d i k) a b=true->fZ g d i=false:=fun hb=>we hlt (mW (d:=((0,0),(0,0))) CR (by rw[<- ha];exact mW (d:=((0,0),(0,0))) htl (by rw[<- Uf,hb];rfl)))
    repeat' (first|refine Rn.p ?_|((first|refine Rs.p ?_|with_reducible intro K hK|(refine hK _ ?_;clear hK K)|refine aa (MA a.1 a.2 b.1 b.2) rfl ?_|(refine bw [(10000,8),(10001,10)] (tG (PR a b) _ _ (fun p=>nG a.1 a.2 p&&nG b.1 b.2 p) (gW g d i k) (fun p _=>Gv a b p) hcl) ?_ ?_;(focus(simp[go_sem,simprocAttr,hb2, <- Uf];done))));try simp only[go_sem,simprocAttr,hb2, <- Uf])|with_reducible (first|apply And.intro|(intro h;try simp only[go_sem,simprocAttr,hb2, <- Uf]at h))|omega)
    all_goals first
     |(refine(hno ?_).symm;rw[uz];simp only[adb,adK,adf,adJ];first|exact .inl (by assumption)|exact .inr ⟨by assumption,by assumption⟩)
     |(have SF:dH (gW g d i k) a b=false:=(by rw[uz];simp only[aep,adL,aeS,afE];first|exact⟨by omega, .inl (by assumption)⟩|exact⟨by omega, .inr (by assumption)⟩)
       refine⟨t+1,⟨by omega,wg ((0,0),(0,0)) htl RT (by rw[<- Uf,SF];rfl)⟩, ?_,by omega⟩
       (refine Le.of ?_ ?_<;>simp[go_sem,simprocAttr,hb2, <- Uf]))
   ·have hb2:decide ((t:Int)<((fe (d.ls.getD k [])).length:Int))=false:=ac5 (by omega)
    rw[adB htg]at RT
    repeat' (first|refine Rn.p ?_|((first|refine Rs.p ?_|with_reducible intro K hK|(refine hK _ ?_;clear hK K));try simp only[go_sem,simprocAttr,hb2])|with_reducible (apply And.intro)|omega)
    refine⟨s+1,⟨by omega,wg ((0,0),(0,0)) CR hsa (by rw[<- ha];exact RT)⟩, ?_,by omega⟩
    (refine Le.of ?_ ?_<;>simp[go_sem,simprocAttr,hb2])
  ·have hb1:decide ((s:Int)<((fe (d.ls.getD i [])).length:Int))=false:=ac5 (by omega)
   rw[adB Wr]at hsa
   repeat' (first|refine Rn.p ?_|((first|refine Rs.p ?_|with_reducible intro K hK|(refine hK _ ?_;clear hK K));try simp only[go_sem,simprocAttr,hb1])|with_reducible (apply And.intro)|omega)
   refine⟨k+1,⟨by omega,by rw[dw];exact hsa⟩, ?_,by omega⟩
   (refine Le.of ?_ ?_<;>simp[go_sem,simprocAttr,hb1])
 ·have hb:decide ((k:Int)<(i:Int))=false:=ac5 (by omega)
  obtain rfl:k=i:=by omega
  repeat' (first|refine Rn.p ?_|((first|refine Rs.p ?_|with_reducible intro K hK|(refine hK _ ?_;clear hK K));try simp only[go_sem,simprocAttr,hb]))
  exact hf.symm
def bP(n:Nat)(holds:Nat->Bool):Int:=bT (fun i=> !holds i) (List.range n)
theorem mj{m:List (Nat × AObj)}(hR:cC m)(f:Nat)(fs caps:List AV)(holds:Nat->Bool)(n:Nat)(hl:n<=9223372036854775807)(hf:∀i:Nat,i<n->Spec Tryz.prog f (Args (fs++eN i::caps)) m (eB (holds i)) m):
 Spec Tryz.prog 67 (Args [eN n, .fn f fs caps]) m (eN (bP n holds)) m:=by
 (refine T.hS [] [] [.t 4] hR Tryz.func67 rfl rfl (by kernel_rfl) fun X hX hP hC aA bB=> ?_)
 repeat' (first|refine Rn.p ?_|((first|refine Rs.p ?_|with_reducible intro K hK|(refine hK _ ?_;clear hK K));try simp only[go_sem,simprocAttr]))
 refine ag (fun k:Nat=>k<=n/\∀j,j<k->holds j=true) (fun k=>⟨[(1, .fn f fs caps),(6,eN n),(7,eN k)],m⟩) (fun k=>n - k) 0 (by simp) ?_ ?_
 ·(refine⟨bS ?_,fun _ _ h=>h⟩;simp[go_sem,simprocAttr])
 rintro k ⟨hk,hg⟩
 rcases adj k n with hlt|hge
 ·have hb:decide ((k:Int)<(n:Int))=true:=ac6 (by omega)
  have hf':=hf k hlt
  repeat' (first|refine Rn.p ?_|((first|refine Rs.p ?_|with_reducible intro K hK|(refine hK _ ?_;clear hK K)|(first|(refine aR hR (hf') ?_ rfl rfl ?_;(focus(first|exact fun p hp=>aL (cC.nd hR) hp|(simp[go_sem,simprocAttr,hb];done))))|(refine aR hR (hf') ?_ ?_ rfl ?_;(focus(first|exact fun p hp=>aL (cC.nd hR) hp|(simp[go_sem,simprocAttr,hb];done)));(focus(simp[go_sem,simprocAttr,hb];done)))));try simp only[go_sem,simprocAttr,hb])|with_reducible (first|apply And.intro|(intro h;try simp only[go_sem,simprocAttr,hb]at h))|omega)
  ·refine(b9 (d:=0) (by simpa using hlt) (fun j hj=> ?_) ?_).symm
   ·rw[dB (by omega),hg j hj];rfl
   ·rw[dB hlt,h];rfl
  ·exact cu hR
  ·refine⟨k+1,⟨by omega,fun j hj=> ?_⟩, ?_,by omega⟩
   ·by_cases hjk:j=k
    ·subst hjk;exact h
    ·exact hg j (by omega)
   ·(refine⟨bS ?_,fun _ _ h=>h⟩;simp[go_sem,simprocAttr,hb])
 ·have hb:decide ((k:Int)<(n:Int))=false:=ac5 (by omega)
  repeat' (first|refine Rn.p ?_|((first|refine Rs.p ?_|with_reducible intro K hK|(refine hK _ ?_;clear hK K));try simp only[go_sem,simprocAttr,hb])|with_reducible (apply And.intro))
  ·refine(bL 0 fun j hj=> ?_).symm
   rw[ae2]at hj
   rw[dB hj,hg j (by omega)];rfl
  ·exact cu hR
def jC(l:List Pt):Bool:=decide (l.length<2)||decide (8<l.length)||l.any nF
theorem EB(l:List Pt)(hl:l.length<=9223372036854775806):Spec Tryz.prog 117 (Args [.d (sP l)]) [] (eB (jC l)) []:=by
 (refine T.h [] [] [.t 2] Tryz.func117 rfl rfl (by kernel_rfl) fun X hX hP hC aA bB=> ?_)
 repeat' (first|refine Rn.p ?_|((first|refine Rs.p ?_|with_reducible intro K hK|(refine hK _ ?_;clear hK K)|refine aa (sC l hl) rfl ?_);try simp only[go_sem,simprocAttr])|with_reducible (first|apply And.intro|(intro h;try simp only[go_sem,simprocAttr]at h)))
 ·have e1:decide (l.length<2)=false:=ac5 (by omega)
  have e2:decide (8<l.length)=false:=ac5 (by omega)
  simp only[jC,e1,e2,aeK,agU]
 ·have e2:decide (8<l.length)=true:=ac6 (by omega)
  simp only[jC,e2,afn,afd]
 ·have e1:decide (l.length<2)=true:=ac6 (by omega)
  simp only[jC,e1,afd]
def dZ(d:Dr):Bool:= !d.pts.any nF&& !d.ls.any jC
theorem yZ(g:Gr)(d:Dr)(hp:d.pts.length<=9223372036854775806)(hls:d.ls.length<=9223372036854775807)(iF:∀l∈d.ls,l.length<=9223372036854775806):
 Spec Tryz.prog 66 (Args [.ptr 10000 0]) [(10000,lkO g d)] (eB (dZ d)) [(10000,lkO g d)]:=by
 unfold lkO
 (refine T.h [] [] [.t 2] Tryz.func66 rfl rfl (by kernel_rfl) fun X hX hP hC aA bB=> ?_)
 repeat' (first|refine Rn.p ?_|((first|refine Rs.p ?_|with_reducible intro K hK|(refine hK _ ?_;clear hK K)|refine aa (sC d.pts hp) rfl ?_|refine aa (tH cC.nil _ [] jC d.ls (fun l hl=>EB l (iF l hl)) hls) rfl ?_);try simp only[go_sem,simprocAttr])|with_reducible (first|apply And.intro|(intro h;try simp only[go_sem,simprocAttr]at h)))
 all_goals simp only[dZ]
 ·have h0:d.pts.any nF=false:=by assumption
  simp only[h0,afs,aeo]
 ·have h0:d.pts.any nF=true:=by assumption
  simp only[h0,aet,agb]
theorem Bj{g:Gr}(h:(bX g).1=0):aM g=true:=by
 cases hm:aM g with
 |true=>rfl
 |false=>simp[bX,iT,hm]at h
theorem uO{d:Dr}(h:dZ d=true):∀l∈d.ls,2<=l.length/\l.length<=8:=by
 intro l hl
 simp only[dZ,adf,adJ]at h
 have:=(adU.1 h.2) l hl
 simp only[jC,adK,adb,not_or]at this
 omega
def ga(g:Gr)(d:Dr):Bool:=decide ((bX g).1=0)&&decide ((d.pts.length:Int)=g.n)&&decide (d.ls.length=g.es.length)
def kG(g:Gr)(d:Dr):Int × Int:=
 if ga g d=false then(1,0) else
 if dZ d=false then(2,0) else
 if 0<=bP g.es.length (qT g d) then(6,bP g.es.length (qT g d)) else
 if 0<=bP g.es.length (fun i=>gL (d.ls.getD i [])) then(7,bP g.es.length (fun i=>gL (d.ls.getD i []))) else
 if 0<=bP d.pts.length (fD d) then(8,bP d.pts.length (fD d)) else
 if 0<=bP g.es.length (kL g d) then(9,bP g.es.length (kL g d)) else
 if 0<=bP g.es.length (fZ g d) then(17,bP g.es.length (fZ g d)) else(0,0)
def eFt(c:Int × Int):AV:= .agg [eN c.1,eN c.2, .d (.sl 1 [])]
attribute [go_sem] eFt
set_option maxHeartbeats 8000000 in
theorem fJ(g:Gr)(d:Dr)(yJ:g.es.length<=1000)(hp:d.pts.length<=1000)(hls:d.ls.length<=1000)(iF:∀l∈d.ls,l.length<=1000):
 Spec Tryz.prog 28 (Args [eG g,eDr d]) [] (eFt (kG g d)) []:=by
 have Ww:d.pts.length<=9223372036854775806:=by omega
 have XU:d.ls.length<=9223372036854775807:=by omega
 have XV:∀l∈d.ls,l.length<=9223372036854775806:=fun l hl=>by have:=iF l hl;omega
 (refine T.h [] [] [.c 4 64] Tryz.func28 rfl rfl (by kernel_rfl) fun X hX hP hC aA bB=> ?_)
 cases hfit:ga g d with
 |false=>
  have hc:kG g d=(1,0):=by rw[kG,ac9 hfit]
  have hneg:¬((bX g).1=0/\(d.pts.length:Int)=g.n/\d.ls.length=g.es.length):=fun ⟨a,b,c⟩=>by simp[ga,a,b,c]at hfit
  repeat' (first|refine Rn.p ?_|((first|refine Rs.p ?_|with_reducible intro K hK|(refine hK _ ?_;clear hK K)|refine aa (iE g yJ) rfl ?_);try simp only[go_sem,simprocAttr,hc])|with_reducible (first|apply And.intro|(intro h;try simp only[go_sem,simprocAttr,hc]at h))|omega)
  all_goals trace_state
 |true=>
  simp only[ga,adf,adb]at hfit
  obtain⟨⟨h0,hnp⟩,hnl⟩:=hfit
  have hfit:ga g d=true:=by simp only[ga,h0,hnp,hnl,decide_true,Bool.and_self]
  have hm:=Bj h0
  have hn:=aB hm
  have e0:(bX g).1=0:=h0
  cases hr:dZ d with
  |false=>
   have hc:kG g d=(2,0):=by rw[kG,ac7 (by rw[hfit];simp),ac9 hr]
   repeat' (first|refine Rn.p ?_|((first|refine Rs.p ?_|with_reducible intro K hK|(refine hK _ ?_;clear hK K)|refine aa (iE g yJ) rfl ?_|(refine bw [(10000,14)] (yZ g d Ww XU XV) ?_ ?_;(focus(simp[go_sem,simprocAttr,hc,h0,hnl,hr];done))));try simp only[go_sem,simprocAttr,hc,h0,hnl,hr])|with_reducible (first|apply And.intro|(intro h;try simp only[go_sem,simprocAttr,hc,h0,hnl,hr]at h))|omega)
  |true=>
  have Vu:x8 g d:=⟨hm,hnp,hnl,uO hr⟩
  have hle:g.es.length<=9223372036854775807:=by omega
  have hle2:d.pts.length<=9223372036854775807:=by omega
  have fa:Spec Tryz.prog 67 (Args [eN g.n, .fn 70 [.ptr 10000 0] []]) [(10000,lkO g d)] (eN (bP d.pts.length (fD d))) [(10000,lkO g d)]:=by
   rw[<- hnp];exact mj (EA g d) _ [.ptr 10000 0] [] (fD d) d.pts.length hle2 (fun i hi=>IX g d Vu i hi)
  have hc1:kG g d=if 0<=bP g.es.length (qT g d) then(6,bP g.es.length (qT g d)) else
   if 0<=bP g.es.length (fun i=>gL (d.ls.getD i [])) then(7,bP g.es.length (fun i=>gL (d.ls.getD i []))) else
   if 0<=bP d.pts.length (fD d) then(8,bP d.pts.length (fD d)) else
   if 0<=bP g.es.length (kL g d) then(9,bP g.es.length (kL g d)) else
   if 0<=bP g.es.length (fZ g d) then(17,bP g.es.length (fZ g d)) else(0,0):=by
   rw[kG,ac7 (by rw[hfit];simp),ac7 (by rw[hr];simp)]
  generalize hcc:kG g d=c at hc1 ⊢
  repeat' (first|refine Rn.p ?_|((first|refine Rs.p ?_|with_reducible intro K hK|(refine hK _ ?_;clear hK K)|refine aa (iE g yJ) rfl ?_|(refine bw [(10000,14)] (yZ g d Ww XU XV) ?_ ?_;(focus(simp[go_sem,simprocAttr,h0,hnl,hr];done)))|(refine bw [(10000,14)] (mj (EA g d) _ [.ptr 10000 0] [] (qT g d) g.es.length hle (fun i hi=>IW g d Vu i hi)) ?_ ?_;(focus(simp[go_sem,simprocAttr,h0,hnl,hr];done)))|(refine bw [(10000,14)] (mj (EA g d) _ [.ptr 10000 0] [] (fun i=>gL (d.ls.getD i [])) g.es.length hle (fun i hi=>IV g d Vu i hi)) ?_ ?_;(focus(simp[go_sem,simprocAttr,h0,hnl,hr];done)))|(refine bw [(10000,14)] (fa) ?_ ?_;(focus(simp[go_sem,simprocAttr,h0,hnl,hr];done)))|(refine bw [(10000,14)] (mj (EA g d) _ [.ptr 10000 0] [] (kL g d) g.es.length hle (fun i hi=>free_spec g d Vu i hi)) ?_ ?_;(focus(simp[go_sem,simprocAttr,h0,hnl,hr];done)))|(refine bw [(10000,14)] (mj (EA g d) _ [.ptr 10000 0] [] (fZ g d) g.es.length hle (fun i hi=>Gw g d Vu i hi)) ?_ ?_;(focus(simp[go_sem,simprocAttr,h0,hnl,hr];done))));try simp only[go_sem,simprocAttr,h0,hnl,hr])|with_reducible (first|apply And.intro|(intro h;try simp only[go_sem,simprocAttr,h0,hnl,hr]at h))|omega)
  all_goals(rw[hc1];repeat (first|rw[ac9 (by assumption)]|rw[ac7 (by assumption)]))
theorem wh{l:List Pt}{k:Nat}(h:k+1<l.length):(fe l).getD k ((0,0),(0,0))=(l.getD k (0,0),l.getD (k+1) (0,0)):=by
 simp only[fe,MC]
 rw[aas,adm,adp (by omega)];rfl
theorem qU(a b c:Pt):Spec Tryz.prog 109 (Args [eP a,eP b,eP c]) [] (eB (nG a b c)) []:=by
 rw[<- Ud];exact Bc a b c
theorem Gx(l:List Pt)(p:Pt)(hl:l.length<=1000000):Spec Tryz.prog 63 (Args [.d (sP l),eP p]) [] (eB (SE l p)) []:=by
 have dI:(fe l).length=l.length - 1:=fW
 (refine T.h [] [] [.t 4] Tryz.func63 rfl rfl (by kernel_rfl) fun X hX hP hC aA bB=> ?_)
 repeat' (first|refine Rn.p ?_|((first|refine Rs.p ?_|with_reducible intro K hK|(refine hK _ ?_;clear hK K));try simp only[go_sem,simprocAttr]))
 refine ag (fun k:Nat=>k<=(fe l).length/\((fe l).take k).any (fun q=>nG q.1 q.2 p)=false) (fun k=>⟨[(0, .d (sP l)),(3, .ptr 3 0),(5,eN k)], [(3, .box [eN p.1,eN p.2])]⟩) (fun k=>(fe l).length - k) 0 (by simp) ?_ ?_
 ·(refine Le.of ?_ ?_<;>simp[go_sem,simprocAttr])
 rintro k ⟨hk,hf⟩
 rcases adj (k+1) l.length with hlt|hge
 ·have hb:decide ((k:Int)+1<(l.length:Int))=true:=ac6 (by omega)
  have hg:=wh hlt
  have ht:(k:Int)+1=((k+1:Nat):Int):=rfl
  have htn:((k:Int)+1).toNat=k+1:=by omega
  repeat' (first|refine Rn.p ?_|((first|refine Rs.p ?_|with_reducible intro K hK|(refine hK _ ?_;clear hK K)|refine aa (qU (l.getD k (0,0)) (l.getD (k+1) (0,0)) p) rfl ?_);try simp only[go_sem,simprocAttr,hb,htn])|with_reducible (first|apply And.intro|refine oD (by kernel_rfl) ?_|(intro h;try simp only[go_sem,simprocAttr,hb,htn]at h))|omega)
  ·rw[SE,uF (d:=((0,0),(0,0))) (k:=k) (by omega) (by rw[hg];exact h)]
  ·refine⟨k+1,⟨by omega,nS ((0,0),(0,0)) (by omega) hf (by rw[hg];exact h)⟩, ?_,by omega⟩
   (refine Le.of ?_ ?_<;>simp[go_sem,simprocAttr,hb,htn])
 ·have hb:decide ((k:Int)+1<(l.length:Int))=false:=ac5 (by omega)
  rw[adB (by omega)]at hf
  repeat' (first|refine Rn.p ?_|((first|refine Rs.p ?_|with_reducible intro K hK|(refine hK _ ?_;clear hK K));try simp only[go_sem,simprocAttr,hb])|with_reducible (apply And.intro)|omega)
  exact hf.symm
theorem PU(p:Pt):decide (bC p)= !nF p:=by rw[sD,agU]
theorem wj(p:Pt):Spec Tryz.prog 108 (Args [eP p]) [] (eB (!nF p)) []:=by
 rw[<- PU];exact pL p
theorem qV(d:Dr)(hp:d.pts.length<=1000)(hls:d.ls.length<=1000)(iF:∀l∈d.ls,l.length<=1000):Spec Tryz.prog 62 (Args [eDr d]) [] (eB (dZ d)) []:=by
 (refine T.h [] [] [.t 2] Tryz.func62 rfl rfl (by kernel_rfl) fun X hX hP hC aA bB=> ?_)
 repeat' (first|refine Rn.p ?_|((first|refine Rs.p ?_|with_reducible intro K hK|(refine hK _ ?_;clear hK K));try simp only[go_sem,simprocAttr]))
 refine ag (fun k:Nat=>k<=d.pts.length/\(d.pts.take k).any nF=false) (fun k=>⟨[(1, .ptr 1 0),(3,eN k)], [(1, .box [.d (sP d.pts), .d (sLn d.ls)])]⟩) (fun k=>d.pts.length - k) 0 (by simp) ?_ ?_
 ·(refine Le.of ?_ ?_<;>simp[go_sem,simprocAttr])
 rintro k ⟨hk,hf⟩
 rcases adj k d.pts.length with hlt|hge
 ·have hb:decide ((k:Int)<(d.pts.length:Int))=true:=ac6 (by omega)
  repeat' (first|refine Rn.p ?_|((first|refine Rs.p ?_|with_reducible intro K hK|(refine hK _ ?_;clear hK K)|refine aa (wj (d.pts.getD k (0,0))) rfl ?_);try simp only[go_sem,simprocAttr,hb])|with_reducible (first|apply And.intro|(intro h;try simp only[go_sem,simprocAttr,hb]at h))|omega)
  ·rw[dZ,uF (d:=(0,0)) (k:=k) hlt h];rfl
  ·refine⟨k+1,⟨by omega,nS (0,0) hlt hf h⟩, ?_,by omega⟩
   (refine Le.of ?_ ?_<;>simp[go_sem,simprocAttr,hb])
 ·have hb:decide ((k:Int)<(d.pts.length:Int))=false:=ac5 (by omega)
  rw[adB hge]at hf
  repeat' (first|refine Rn.p ?_|((first|refine Rs.p ?_|with_reducible intro K hK|(refine hK _ ?_;clear hK K));try simp only[go_sem,simprocAttr,hb]))
  refine ag (fun k:Nat=>k<=d.ls.length/\(d.ls.take k).any jC=false) (fun k=>⟨[(1, .ptr 1 0),(4,eN k)], [(1, .box [.d (sP d.pts), .d (sLn d.ls)])]⟩) (fun k=>d.ls.length - k) 0 (by simp) ?_ ?_
  ·(refine Le.of ?_ ?_<;>simp[go_sem,simprocAttr,hb])
  clear hk hge hb
  rintro k ⟨hk,Pm⟩
  rcases adj k d.ls.length with hlt|hge
  ·have hb:decide ((k:Int)<(d.ls.length:Int))=true:=ac6 (by omega)
   obtain⟨l,hl⟩:∃l,l=d.ls.getD k []:=⟨_,rfl⟩
   have hlen:l.length<=1000:=iF l (by rw[hl];exact az hlt)
   have hno:jC l=true->dZ d=false:=fun hb=>by
    rw[dZ,uF (xs:=d.ls) (d:= []) (k:=k) hlt (by rw[<- hl];exact hb),aet,afR]
   repeat' (first|refine Rn.p ?_|((first|refine Rs.p ?_|with_reducible intro K hK|(refine hK _ ?_;clear hK K));try simp only[go_sem,simprocAttr,hb, <- hl])|with_reducible (first|apply And.intro|(intro h;try simp only[go_sem,simprocAttr,hb, <- hl]at h))|omega)
   ·refine(hno ?_).symm
    simp only[jC,ac6 (show 8<l.length by omega),afn,afd]
   ·refine ag (fun j:Nat=>j<=l.length/\(l.take j).any nF=false) (fun j=>⟨[(1, .ptr 1 0),(4,eN k),(5,eN j)], [(1, .box [.d (sP d.pts), .d (sLn d.ls)])]⟩) (fun j=>l.length - j) 0 (by simp) ?_ ?_
    ·(refine Le.of ?_ ?_<;>simp[go_sem,simprocAttr,hb, <- hl])
    rintro j ⟨hj,hf3⟩
    rcases adj j l.length with hjl|WE
    ·have hb3:decide ((j:Int)<(l.length:Int))=true:=ac6 (by omega)
     repeat' (first|refine Rn.p ?_|((first|refine Rs.p ?_|with_reducible intro K hK|(refine hK _ ?_;clear hK K)|refine aa (wj (l.getD j (0,0))) rfl ?_);try simp only[go_sem,simprocAttr, <- hl,hb3])|with_reducible (first|apply And.intro|(intro h;try simp only[go_sem,simprocAttr, <- hl,hb3]at h))|omega)
     ·refine(hno ?_).symm
      rw[jC,uF (d:=(0,0)) (k:=j) hjl h,afn]
     ·refine⟨j+1,⟨by omega,nS (0,0) hjl hf3 h⟩, ?_,by omega⟩
      (refine Le.of ?_ ?_<;>simp[go_sem,simprocAttr, <- hl,hb3])
    ·have hb3:decide ((j:Int)<(l.length:Int))=false:=ac5 (by omega)
     rw[adB WE]at hf3
     have SF:jC l=false:=by
      simp only[jC,ac5 (show ¬l.length<2 by omega),ac5 (show ¬8<l.length by omega),hf3,afp]
     repeat' (first|refine Rn.p ?_|((first|refine Rs.p ?_|with_reducible intro K hK|(refine hK _ ?_;clear hK K));try simp only[go_sem,simprocAttr, <- hl,hb3])|with_reducible (apply And.intro)|omega)
     refine⟨k+1,⟨by omega,nS [] hlt Pm (by rw[<- hl];exact SF)⟩, ?_,by omega⟩
     (refine Le.of ?_ ?_<;>simp[go_sem,simprocAttr, <- hl,hb3])
   ·refine(hno ?_).symm
    simp only[jC,ac6 (show l.length<2 by omega),afd]
  ·have hb:decide ((k:Int)<(d.ls.length:Int))=false:=ac5 (by omega)
   rw[adB hge]at Pm
   repeat' (first|refine Rn.p ?_|((first|refine Rs.p ?_|with_reducible intro K hK|(refine hK _ ?_;clear hK K));try simp only[go_sem,simprocAttr,hb]))
   rw[dZ,hf,Pm];rfl
def EC(g:Gr)(d:Dr)(i k:Nat)(a b:Pc)(m:Nat):Bool:=(List.range m).any fun x=>(decide ((g.es.getD i (0,0)).1=(x:Int))||decide ((g.es.getD i (0,0)).2=(x:Int)))&&(decide ((g.es.getD k (0,0)).1=(x:Int))||decide ((g.es.getD k (0,0)).2=(x:Int)))&&nG a.1 a.2 (d.pts.getD x (0,0))&&nG b.1 b.2 (d.pts.getD x (0,0))
theorem MG{g:Gr}{d:Dr}{i k:Nat}{a b:Pc}{m:Nat} :EC g d i k a b (m+1)=(EC g d i k a b m||((decide ((g.es.getD i (0,0)).1=(m:Int))||decide ((g.es.getD i (0,0)).2=(m:Int)))&&(decide ((g.es.getD k (0,0)).1=(m:Int))||decide ((g.es.getD k (0,0)).2=(m:Int)))&&nG a.1 a.2 (d.pts.getD m (0,0))&&nG b.1 b.2 (d.pts.getD m (0,0)))):=by
 simp[EC,adV]
theorem PV{g:Gr}{d:Dr}(hD:x8 g d){i k:Nat}(hi:i<g.es.length)(a b:Pc):EC g d i k a b g.n.toNat=(gW g d i k).any fun p=>nG a.1 a.2 p&&nG b.1 b.2 p:=by
 obtain⟨⟨Pg,yL⟩,Cu,yM⟩:=cU hD.may hi
 rw[ad0]
 simp only[EC,adQ,adk,adf,adK,adb,gW,uN,ada,adI,MF]
 constructor
 ·rintro⟨x,hx,⟨⟨h1,h2⟩,h3⟩,h4⟩
  refine⟨_,⟨(x:Int),⟨by simp only[List.take_succ_cons,List.take_zero,adv,aen,or_false];omega,by omega⟩,by rw[Int.toNat_natCast]⟩,h3,h4⟩
 ·rintro⟨p,⟨x,⟨h1,h2⟩,rfl⟩,h3,h4⟩
  simp only[List.take_succ_cons,List.take_zero,adv,aen,or_false]at h1
  refine⟨x.toNat,by omega,⟨⟨by omega,by omega⟩,h3⟩,h4⟩
theorem Gy(a b c d:Pt):0<=fF a b c d/\fF a b c d<=2:=by
 unfold fF
 split
 ·split
  ·omega
  ·split<;>omega
 ·omega
theorem CF(a b c d:Pt):Spec Tryz.prog 110 (Args [eP a,eP b,eP c,eP d]) [] (eN (fF a b c d)) []:=by
 rw[<- KH];exact Ev a b c d
def Bl(g:Gr)(d:Dr)(i k:Nat):Bool:= !(fe (d.ls.getD i [])).all fun a=>(fe (d.ls.getD k [])).all fun b=> !dH (gW g d i k) a b
theorem CG(g:Gr)(d:Dr)(hD:x8 g d)(i k:Nat)(hi:i<g.es.length)(hk:k<g.es.length):Spec Tryz.prog 64 (Args [eG g,eDr d,eN i,eN k]) [] (eB (Bl g d i k)) []:=by
 have hn:=aB hD.may
 have hnp:=hD.np
 have hnl:=hD.nl
 obtain⟨li,Gz⟩:∃l,l=d.ls.getD i []:=⟨_,rfl⟩
 obtain⟨lk,hlk⟩:∃l,l=d.ls.getD k []:=⟨_,rfl⟩
 have hi2:=hD.line hi
 have hk2:=hD.line hk
 rw[<- Gz]at hi2
 rw[<- hlk]at hk2
 have hpi:(fe li).length=li.length - 1:=fW
 have hpk:(fe lk).length=lk.length - 1:=fW
 have hB:Bl g d i k= !(fe li).all fun a=>(fe lk).all fun b=> !dH (gW g d i k) a b:=by rw[Bl, <- Gz, <- hlk]
 rw[hB]
 (refine T.h [] [] [.t 8] Tryz.func64 rfl rfl (by kernel_rfl) fun X hX hP hC aA bB=> ?_)
 repeat' (first|refine Rn.p ?_|((first|refine Rs.p ?_|with_reducible intro K hK|(refine hK _ ?_;clear hK K));try simp only[go_sem,simprocAttr])|with_reducible (first|apply And.intro|refine oD (by kernel_rfl) ?_)|omega)
 refine ag (fun s:Nat=>s<=(fe li).length/\((fe li).take s).all (fun a=>(fe lk).all fun b=> !dH (gW g d i k) a b)=true) (fun s=>⟨[(2,eN i),(3,eN k),(4, .ptr 4 0),(5, .ptr 5 0),(9, .ptr 9 0),(10, .ptr 10 0),(11,eN s)], [(4, .box [eN g.n, .d (sE g.es)]),(5, .box [.d (sP d.pts), .d (sLn d.ls)]),(9, .box [eN (g.es.getD i (0,0)).1,eN (g.es.getD i (0,0)).2]),(10, .box [eN (g.es.getD k (0,0)).1,eN (g.es.getD k (0,0)).2])]⟩) (fun s=>(fe li).length - s) 0 (by simp) ?_ ?_
 ·(refine Le.of ?_ ?_<;>simp[go_sem,simprocAttr])
 rintro s ⟨hs,hsa⟩
 rcases adj (s+1) li.length with CR|Wr
 ·have hb1:decide ((s:Int)+1<(li.length:Int))=true:=ac6 (by omega)
  have hga:=wh CR
  have htn:((s:Int)+1).toNat=s+1:=by omega
  repeat' (first|refine Rn.p ?_|((first|refine Rs.p ?_|with_reducible intro K hK|(refine hK _ ?_;clear hK K));try simp only[go_sem,simprocAttr, <- Gz, <- hlk,hb1])|with_reducible (apply And.intro)|omega)
  refine ag (fun t:Nat=>t<=(fe lk).length/\((fe lk).take t).all (fun b=> !dH (gW g d i k) (li.getD s (0,0),li.getD (s+1) (0,0)) b)=true) (fun t=>⟨[(2,eN i),(3,eN k),(4, .ptr 4 0),(5, .ptr 5 0),(9, .ptr 9 0),(10, .ptr 10 0),(11,eN s),(12,eN t)], [(4, .box [eN g.n, .d (sE g.es)]),(5, .box [.d (sP d.pts), .d (sLn d.ls)]),(9, .box [eN (g.es.getD i (0,0)).1,eN (g.es.getD i (0,0)).2]),(10, .box [eN (g.es.getD k (0,0)).1,eN (g.es.getD k (0,0)).2])]⟩) (fun t=>(fe lk).length - t) 0 (by simp) ?_ ?_
  ·(refine Le.of ?_ ?_<;>simp[go_sem,simprocAttr, <- Gz, <- hlk,hb1])
  rintro t ⟨ht,RT⟩
  rcases adj (t+1) lk.length with htl|htg
  ·have hb2:decide ((t:Int)+1<(lk.length:Int))=true:=ac6 (by omega)
   have Vv:=wh htl
   have SG:((t:Int)+1).toNat=t+1:=by omega
   obtain⟨n,SH⟩:∃n,n=fF (li.getD s (0,0)) (li.getD (s+1) (0,0)) (lk.getD t (0,0)) (lk.getD (t+1) (0,0)):=⟨_,rfl⟩
   have Vw:=Gy (li.getD s (0,0)) (li.getD (s+1) (0,0)) (lk.getD t (0,0)) (lk.getD (t+1) (0,0))
   rw[<- SH]at Vw
   have uz:dH (gW g d i k) (li.getD s (0,0),li.getD (s+1) (0,0)) (lk.getD t (0,0),lk.getD (t+1) (0,0))=(decide (1<n)||(decide (n=1)&& !EC g d i k (li.getD s (0,0),li.getD (s+1) (0,0)) (lk.getD t (0,0),lk.getD (t+1) (0,0)) g.n.toNat)):=by
    rw[PV hD hi,SH];rfl
   have SF:dH (gW g d i k) (li.getD s (0,0),li.getD (s+1) (0,0)) (lk.getD t (0,0),lk.getD (t+1) (0,0))=false->((fe lk).take (t+1)).all (fun b=> !dH (gW g d i k) (li.getD s (0,0),li.getD (s+1) (0,0)) b)=true:=fun hb=>
    wg ((0,0),(0,0)) (by omega) RT (by rw[Vv,hb];rfl)
   have hno:dH (gW g d i k) (li.getD s (0,0),li.getD (s+1) (0,0)) (lk.getD t (0,0),lk.getD (t+1) (0,0))=true->((fe li).all fun a=>(fe lk).all fun b=> !dH (gW g d i k) a b)=false:=fun hb=>
    mW (d:=((0,0),(0,0))) (k:=s) (by omega) (by rw[hga];exact mW (d:=((0,0),(0,0))) (k:=t) (by omega) (by rw[Vv,hb];rfl))
   repeat' (first|refine Rn.p ?_|((first|refine Rs.p ?_|with_reducible intro K hK|(refine hK _ ?_;clear hK K)|refine aa (CF (li.getD s (0,0)) (li.getD (s+1) (0,0)) (lk.getD t (0,0)) (lk.getD (t+1) (0,0))) rfl ?_);try simp only[go_sem,simprocAttr, <- Gz, <- hlk,hb2,htn,SG, <- SH])|with_reducible (first|apply And.intro|refine oD (by kernel_rfl) ?_|(intro h;try simp only[go_sem,simprocAttr, <- Gz, <- hlk,hb2,htn,SG, <- SH]at h))|omega)
   ·refine⟨t+1,⟨by omega,SF (by rw[uz,ac5 (by omega),ac5 (by omega)];rfl)⟩, ?_,by omega⟩
    (refine Le.of ?_ ?_<;>simp[go_sem,simprocAttr, <- Gz, <- hlk,hb2,htn,SG, <- SH])
   ·obtain⟨en,XW⟩:∃e,e=EC g d i k (li.getD s (0,0),li.getD (s+1) (0,0)) (lk.getD t (0,0),lk.getD (t+1) (0,0)) g.n.toNat:=⟨_,rfl⟩
    rw[<- XW]at uz
    refine ag (fun m:Nat=>m<=g.n.toNat) (fun m=>⟨[(2,eN i),(3,eN k),(4, .ptr 4 0),(5, .ptr 5 0),(9, .ptr 9 0),(10, .ptr 10 0),(11,eN s),(12,eN t),(13, .ptr 13 0),(14, .ptr 14 0),(15, .ptr 15 0),(16, .ptr 16 0),(17,eN n),(18,eB (EC g d i k (li.getD s (0,0),li.getD (s+1) (0,0)) (lk.getD t (0,0),lk.getD (t+1) (0,0)) m)),(19,eN m)], [(4, .box [eN g.n, .d (sE g.es)]),(5, .box [.d (sP d.pts), .d (sLn d.ls)]),(9, .box [eN (g.es.getD i (0,0)).1,eN (g.es.getD i (0,0)).2]),(10, .box [eN (g.es.getD k (0,0)).1,eN (g.es.getD k (0,0)).2]),(13, .box [eN (li.getD s (0,0)).1,eN (li.getD s (0,0)).2]),(14, .box [eN (li.getD (s+1) (0,0)).1,eN (li.getD (s+1) (0,0)).2]),(15, .box [eN (lk.getD t (0,0)).1,eN (lk.getD t (0,0)).2]),(16, .box [eN (lk.getD (t+1) (0,0)).1,eN (lk.getD (t+1) (0,0)).2])]⟩) (fun m=>g.n.toNat - m) 0 (by simp) ?_ ?_
    ·refine Le.of ?_ ?_<;>simp[go_sem,simprocAttr, <- Gz, <- hlk,hb2,htn,SG, <- SH,EC]
    rintro m hm
    rcases adj m g.n.toNat with hml|hmg
    ·have hb3:decide ((m:Int)<g.n)=true:=ac6 (by omega)
     have dw:=MG (g:=g) (d:=d) (i:=i) (k:=k) (a:=(li.getD s (0,0),li.getD (s+1) (0,0))) (b:=(lk.getD t (0,0),lk.getD (t+1) (0,0))) (m:=m)
     repeat' (first|refine Rn.p ?_|((first|refine Rs.p ?_|with_reducible intro K hK|(refine hK _ ?_;clear hK K)|refine aa (qU (li.getD s (0,0)) (li.getD (s+1) (0,0)) (d.pts.getD m (0,0))) rfl ?_|refine aa (qU (lk.getD t (0,0)) (lk.getD (t+1) (0,0)) (d.pts.getD m (0,0))) rfl ?_);try simp only[go_sem,simprocAttr, <- Gz, <- hlk,hb3])|with_reducible (first|apply And.intro|refine oD (by kernel_rfl) ?_|(intro h;try simp only[go_sem,simprocAttr, <- Gz, <- hlk,hb3]at h))|omega)
     all_goals(
      refine⟨m+1,by omega, ?_,by omega⟩
      rw[dw]
      clear Gz hlk hB hga Vv SF hno uz XW SH dw hsa RT hb1 hb2 hb3
      simp only[*,decide_true,decide_false,afd,afn,aeK,afp,aeo,agb,aeY,afR]
      refine Le.of ?_ ?_<;>simp[go_sem,simprocAttr])
    ·have hb3:decide ((m:Int)<g.n)=false:=ac5 (by omega)
     obtain rfl:m=g.n.toNat:=by omega
     rw[<- XW]
     repeat' (first|refine Rn.p ?_|((first|refine Rs.p ?_|with_reducible intro K hK|(refine hK _ ?_;clear hK K));try simp only[go_sem,simprocAttr, <- Gz, <- hlk,hb3])|with_reducible (first|apply And.intro|(intro h;try simp only[go_sem,simprocAttr, <- Gz, <- hlk,hb3]at h))|omega)
     all_goals first
      |(have Uf:=hno (by
         rw[uz];simp only[adb,adK,adf,adJ]
         first|exact .inl (by omega)|exact .inr ⟨by omega,by assumption⟩)
        rw[Uf];rfl)
      |(refine⟨t+1,⟨by omega,SF (by
         rw[uz];simp only[aep,adL,aeS,afE]
         exact⟨by omega, .inr (by assumption)⟩)⟩, ?_,by omega⟩
        (refine Le.of ?_ ?_<;>simp[go_sem,simprocAttr, <- Gz, <- hlk,hb3]))
  ·have hb2:decide ((t:Int)+1<(lk.length:Int))=false:=ac5 (by omega)
   rw[adB (by omega)]at RT
   repeat' (first|refine Rn.p ?_|((first|refine Rs.p ?_|with_reducible intro K hK|(refine hK _ ?_;clear hK K));try simp only[go_sem,simprocAttr, <- Gz, <- hlk,hb2])|with_reducible (apply And.intro)|omega)
   refine⟨s+1,⟨by omega,wg ((0,0),(0,0)) (by omega) hsa (by rw[hga];exact RT)⟩, ?_,by omega⟩
   (refine Le.of ?_ ?_<;>simp[go_sem,simprocAttr, <- Gz, <- hlk,hb2])
 ·have hb1:decide ((s:Int)+1<(li.length:Int))=false:=ac5 (by omega)
  rw[adB (by omega)]at hsa
  repeat' (first|refine Rn.p ?_|((first|refine Rs.p ?_|with_reducible intro K hK|(refine hK _ ?_;clear hK K));try simp only[go_sem,simprocAttr, <- Gz, <- hlk,hb1])|with_reducible (apply And.intro)|omega)
  rw[hsa];rfl
theorem pP(g:Gr)(hl:g.es.length<=1000):Spec Tryz.prog 61 (Args [eG g]) [] (eB (decide ((bX g).1=0))) []:=by
 rw[Vn]
 (refine T.h [] [] [.t 2] Tryz.func61 rfl rfl (by kernel_rfl) fun X hX hP hC aA bB=> ?_)
 repeat' (first|refine Rn.p ?_|((first|refine Rs.p ?_|with_reducible intro K hK|(refine hK _ ?_;clear hK K)|refine aa (CD g hl) rfl ?_);try simp only[go_sem,simprocAttr]))
theorem iX{n k:Nat}{holds:Nat->Bool}(hk:k<n)(h:∀j,j<k->holds j=true)(hb:holds k=false):bP n holds=k:=by
 refine b9 (d:=0) (by simpa using hk) (fun j hj=> ?_) ?_
 ·rw[dB (by omega),h j hj];rfl
 ·rw[dB hk,hb];rfl
theorem iY{n:Nat}{holds:Nat->Bool}(h:∀j,j<n->holds j=true):bP n holds= -1:=by
 refine bL 0 fun j hj=> ?_
 rw[ae2]at hj
 rw[dB hj,h j hj];rfl
theorem x9{p:Nat->Prop}{k:Nat}(h:∀j,j<k->p j)(hk:p k):∀j,j<k+1->p j:=fun j hj=>by
 by_cases hjk:j=k
 ·subst hjk;exact hk
 ·exact h j (by omega)
theorem zB(g:Gr)(d:Dr)(yJ:g.es.length<=1000)(hp:d.pts.length<=1000)(hls:d.ls.length<=1000)(iF:∀l∈d.ls,l.length<=1000):
 Spec Tryz.prog 23 (Args [eG g,eDr d]) [] (.tup [eN (kG g d).1,eN (kG g d).2]) []:=by
 (refine T.h [] [] [.t 4, .t 5] Tryz.func23 rfl rfl (by kernel_rfl) fun X hX hP hC aA bB=> ?_)
 cases hfit:ga g d with
 |false=>
  have hc:kG g d=(1,0):=by rw[kG,ac9 hfit]
  have hneg:¬((bX g).1=0/\(d.pts.length:Int)=g.n/\d.ls.length=g.es.length):=fun ⟨a,b,c⟩=>by simp[ga,a,b,c]at hfit
  repeat' (first|refine Rn.p ?_|((first|refine Rs.p ?_|with_reducible intro K hK|(refine hK _ ?_;clear hK K)|refine aa (pP g yJ) rfl ?_);try simp only[go_sem,simprocAttr,hc])|with_reducible (first|apply And.intro|(intro h;try simp only[go_sem,simprocAttr,hc]at h))|omega)
 |true=>
  simp only[ga,adf,adb]at hfit
  obtain⟨⟨h0,hnp⟩,hnl⟩:=hfit
  have hfit:ga g d=true:=by simp only[ga,h0,hnp,hnl,decide_true,Bool.and_self]
  have hm:=Bj h0
  have hn:=aB hm
  cases hr:dZ d with
  |false=>
   have hc:kG g d=(2,0):=by rw[kG,ac7 (by rw[hfit];simp),ac9 hr]
   repeat' (first|refine Rn.p ?_|((first|refine Rs.p ?_|with_reducible intro K hK|(refine hK _ ?_;clear hK K)|refine aa (pP g yJ) rfl ?_|refine aa (qV d hp hls iF) rfl ?_);try simp only[go_sem,simprocAttr,hc,h0,hnl,hr,hnp]))
  |true=>
  have hD:x8 g d:=⟨hm,hnp,hnl,uO hr⟩
  have hc1:kG g d=if 0<=bP g.es.length (qT g d) then(6,bP g.es.length (qT g d)) else
   if 0<=bP g.es.length (fun i=>gL (d.ls.getD i [])) then(7,bP g.es.length (fun i=>gL (d.ls.getD i []))) else
   if 0<=bP d.pts.length (fD d) then(8,bP d.pts.length (fD d)) else
   if 0<=bP g.es.length (kL g d) then(9,bP g.es.length (kL g d)) else
   if 0<=bP g.es.length (fZ g d) then(17,bP g.es.length (fZ g d)) else(0,0):=by
   rw[kG,ac7 (by rw[hfit];simp),ac7 (by rw[hr];simp)]
  generalize hcc:kG g d=c at hc1 ⊢
  repeat' (first|refine Rn.p ?_|((first|refine Rs.p ?_|with_reducible intro K hK|(refine hK _ ?_;clear hK K)|refine aa (pP g yJ) rfl ?_|refine aa (qV d hp hls iF) rfl ?_);try simp only[go_sem,simprocAttr,h0,hnl,hr,hnp]))
  refine ag (fun i:Nat=>i<=g.es.length/\∀j,j<i->qT g d j=true) (fun i=>⟨[(2, .ptr 2 0),(3, .ptr 3 0),(6,eN i)], [(2, .box [eN g.n, .d (sE g.es)]),(3, .box [.d (sP d.pts), .d (sLn d.ls)])]⟩) (fun i=>g.es.length - i) 0 (by simp) ?_ ?_
  ·(refine Le.of ?_ ?_<;>simp[go_sem,simprocAttr,h0,hnl,hr,hnp])
  rintro i ⟨hi,h6⟩
  rcases adj i g.es.length with hil|N0
  ·have hb:decide ((i:Int)<(g.es.length:Int))=true:=ac6 (by omega)
   obtain⟨⟨Pg,yL⟩,Cu,yM⟩:=cU hm hil
   obtain⟨h2,h8⟩:=hD.line hil
   have htn:(((d.ls.getD i []).length:Int) - 1).toNat=(d.ls.getD i []).length - 1:=by omega
   have hE:qT g d i=(decide ((d.ls.getD i []).getD 0 (0,0)=d.pts.getD (g.es.getD i (0,0)).1.toNat (0,0))&&decide ((d.ls.getD i []).getD ((d.ls.getD i []).length - 1) (0,0)=d.pts.getD (g.es.getD i (0,0)).2.toNat (0,0))):=rfl
   repeat' (first|refine Rn.p ?_|((first|refine Rs.p ?_|with_reducible intro K hK|(refine hK _ ?_;clear hK K));try simp only[go_sem,simprocAttr,hb,htn,qK])|with_reducible (first|apply And.intro|refine oD (by kernel_rfl) ?_|(intro h;try simp only[go_sem,simprocAttr,hb,htn,qK]at h))|omega)
   all_goals first
    |(have mo:qT g d i=false:=(by rw[hE];simp only[aeS,adL];first|exact .inl (by assumption)|exact .inr (by assumption))
      have f6:=iX hil h6 mo
      have oZ:c=(6,(i:Int)):=(by rw[hc1,ac9 (by omega),f6])
      rw[oZ])
    |(refine⟨i+1,⟨by omega,x9 h6 (by rw[hE];simp only[adf,adb];exact⟨by assumption,by assumption⟩)⟩, ?_,by omega⟩
      (refine Le.of ?_ ?_<;>simp[go_sem,simprocAttr,hb,htn,qK]))
  ·have hb:decide ((i:Int)<(g.es.length:Int))=false:=ac5 (by omega)
   obtain rfl:i=g.es.length:=by omega
   have f6:=iY h6
   rw[ac7 (by omega)]at hc1
   repeat' (first|refine Rn.p ?_|((first|refine Rs.p ?_|with_reducible intro K hK|(refine hK _ ?_;clear hK K));try simp only[go_sem,simprocAttr,hb]))
   clear hb N0 hi
   refine ag (fun i:Nat=>i<=g.es.length/\∀j,j<i->gL (d.ls.getD j [])=true) (fun i=>⟨[(2, .ptr 2 0),(3, .ptr 3 0),(8,eN i)], [(2, .box [eN g.n, .d (sE g.es)]),(3, .box [.d (sP d.pts), .d (sLn d.ls)])]⟩) (fun i=>g.es.length - i) 0 (by simp) ?_ ?_
   ·(refine Le.of ?_ ?_<;>simp[go_sem,simprocAttr])
   rintro i ⟨hi,h7⟩
   rcases adj i g.es.length with hil|N0
   ·have hb:decide ((i:Int)<(g.es.length:Int))=true:=ac6 (by omega)
    obtain⟨l,hl⟩:∃l,l=d.ls.getD i []:=⟨_,rfl⟩
    have h28:=hD.line hil
    rw[<- hl]at h28
    have dI:(fe l).length=l.length - 1:=fW
    repeat' (first|refine Rn.p ?_|((first|refine Rs.p ?_|with_reducible intro K hK|(refine hK _ ?_;clear hK K));try simp only[go_sem,simprocAttr,hb, <- hl]))
    refine ag (fun k:Nat=>k<=(fe l).length/\((fe l).take k).any (fun q=>decide (q.2.2<=q.1.2))=false) (fun k=>⟨[(2, .ptr 2 0),(3, .ptr 3 0),(8,eN i),(9,eN ((k+1:Nat):Int))], [(2, .box [eN g.n, .d (sE g.es)]),(3, .box [.d (sP d.pts), .d (sLn d.ls)])]⟩) (fun k=>(fe l).length - k) 0 (by simp) ?_ ?_
    ·(refine Le.of ?_ ?_<;>simp[go_sem,simprocAttr,hb, <- hl])
    rintro k ⟨hk,hka⟩
    rcases adj (k+1) l.length with cM|RH
    ·have hb1:decide (((k+1:Nat):Int)<(l.length:Int))=true:=ac6 (by omega)
     have GA:=wh cM
     have htn:(((k+1:Nat):Int) - 1).toNat=k:=by omega
     repeat' (first|refine Rn.p ?_|((first|refine Rs.p ?_|with_reducible intro K hK|(refine hK _ ?_;clear hK K));try simp only[go_sem,simprocAttr,hb1,htn, <- hl])|with_reducible (first|apply And.intro|refine oD (by kernel_rfl) ?_|(intro h;try simp only[go_sem,simprocAttr,hb1,htn, <- hl]at h))|omega)
     ·have mo:gL (d.ls.getD i [])=false:=by
       rw[<- hl,gL,uF (d:=((0,0),(0,0))) (k:=k) (by omega) (by rw[GA];exact ac6 h)];rfl
      have f7:=iX (holds:=fun i=>gL (d.ls.getD i [])) hil h7 mo
      have oZ:c=(7,(i:Int)):=by rw[hc1,ac9 (by omega),f7]
      rw[oZ]
     ·have mo:gL (d.ls.getD i [])=false:=by
       rw[<- hl,gL,uF (d:=((0,0),(0,0))) (k:=k) (by omega) (by rw[GA];exact ac6 h)];rfl
      have f7:=iX (holds:=fun i=>gL (d.ls.getD i [])) hil h7 mo
      have oZ:c=(7,(i:Int)):=by rw[hc1,ac9 (by omega),f7]
      rw[oZ]
     ·refine⟨k+1,⟨by omega,nS ((0,0),(0,0)) (by omega) hka (by rw[GA];exact ac5 h)⟩, ?_,by omega⟩
      (refine Le.of ?_ ?_<;>simp[go_sem,simprocAttr,hb1,htn, <- hl])
    ·have hb1:decide (((k+1:Nat):Int)<(l.length:Int))=false:=ac5 (by omega)
     rw[adB (by omega)]at hka
     repeat' (first|refine Rn.p ?_|((first|refine Rs.p ?_|with_reducible intro K hK|(refine hK _ ?_;clear hK K));try simp only[go_sem,simprocAttr,hb1, <- hl])|with_reducible (apply And.intro)|omega)
     refine⟨i+1,⟨by omega,x9 h7 (by rw[<- hl,gL,hka];rfl)⟩, ?_,by omega⟩
     (refine Le.of ?_ ?_<;>simp[go_sem,simprocAttr,hb1, <- hl])
   ·have hb:decide ((i:Int)<(g.es.length:Int))=false:=ac5 (by omega)
    obtain rfl:i=g.es.length:=by omega
    have f7:=iY (holds:=fun i=>gL (d.ls.getD i [])) h7
    rw[ac7 (by omega)]at hc1
    repeat' (first|refine Rn.p ?_|((first|refine Rs.p ?_|with_reducible intro K hK|(refine hK _ ?_;clear hK K));try simp only[go_sem,simprocAttr,hb]))
    clear hb N0 hi
    refine ag (fun x:Nat=>x<=d.pts.length/\∀j,j<x->fD d j=true) (fun x=>⟨[(2, .ptr 2 0),(3, .ptr 3 0),(10,eN x)], [(2, .box [eN g.n, .d (sE g.es)]),(3, .box [.d (sP d.pts), .d (sLn d.ls)])]⟩) (fun x=>d.pts.length - x) 0 (by simp) ?_ ?_
    ·(refine Le.of ?_ ?_<;>simp[go_sem,simprocAttr])
    rintro x ⟨hx,h8⟩
    rcases adj x d.pts.length with hxl|MH
    ·have hb:decide ((x:Int)<g.n)=true:=ac6 (by omega)
     repeat' (first|refine Rn.p ?_|((first|refine Rs.p ?_|with_reducible intro K hK|(refine hK _ ?_;clear hK K));try simp only[go_sem,simprocAttr,hb]))
     refine ag (fun z:Nat=>z<=x/\∀j,j<z->¬d.pts.getD x (0,0)=d.pts.getD j (0,0)) (fun z=>⟨[(2, .ptr 2 0),(3, .ptr 3 0),(10,eN x),(11,eN z)], [(2, .box [eN g.n, .d (sE g.es)]),(3, .box [.d (sP d.pts), .d (sLn d.ls)])]⟩) (fun z=>x - z) 0 (by simp) ?_ ?_
     ·(refine Le.of ?_ ?_<;>simp[go_sem,simprocAttr,hb])
     rintro z ⟨hz,hza⟩
     rcases adj z x with hzl|hzg
     ·have hb1:decide ((z:Int)<(x:Int))=true:=ac6 (by omega)
      repeat' (first|refine Rn.p ?_|((first|refine Rs.p ?_|with_reducible intro K hK|(refine hK _ ?_;clear hK K));try simp only[go_sem,simprocAttr,hb1,qK])|with_reducible (first|apply And.intro|refine oD (by kernel_rfl) ?_|(intro h;try simp only[go_sem,simprocAttr,hb1,qK]at h))|omega)
      ·have mo:fD d x=false:=by
        have:d.pts.getD x (0,0)∈d.pts.take x:=by
         rw[h,aei]
         exact⟨z,by rw[adD,ac9 hzl,aas,acF (by omega)];rfl⟩
        rw[fD,ac6 this];rfl
       have f8:=iX hxl h8 mo
       have oZ:c=(8,(x:Int)):=by rw[hc1,ac9 (by omega),f8]
       rw[oZ]
      ·have mo:fD d x=false:=by
        have:d.pts.getD x (0,0)∈d.pts.take x:=by
         rw[h,aei]
         exact⟨z,by rw[adD,ac9 hzl,aas,acF (by omega)];rfl⟩
        rw[fD,ac6 this];rfl
       have f8:=iX hxl h8 mo
       have oZ:c=(8,(x:Int)):=by rw[hc1,ac9 (by omega),f8]
       rw[oZ]
      ·refine⟨z+1,⟨by omega,x9 hza h⟩, ?_,by omega⟩
       (refine Le.of ?_ ?_<;>simp[go_sem,simprocAttr,hb1,qK])
     ·have hb1:decide ((z:Int)<(x:Int))=false:=ac5 (by omega)
      have SF:fD d x=true:=by
       have:d.pts.getD x (0,0)∉d.pts.take x:=by
        rw[aei]
        rintro⟨j,hj⟩
        rw[adD]at hj
        split at hj
        ·exact hza j (by omega) (by rw[aas (i:=j),hj];rfl)
        ·cases hj
       rw[fD,ac5 this];rfl
      repeat' (first|refine Rn.p ?_|((first|refine Rs.p ?_|with_reducible intro K hK|(refine hK _ ?_;clear hK K));try simp only[go_sem,simprocAttr,hb1])|with_reducible (apply And.intro)|omega)
      refine⟨x+1,⟨by omega,x9 h8 SF⟩, ?_,by omega⟩
      (refine Le.of ?_ ?_<;>simp[go_sem,simprocAttr,hb1])
    ·have hb:decide ((x:Int)<g.n)=false:=ac5 (by omega)
     obtain rfl:x=d.pts.length:=by omega
     have f8:=iY h8
     rw[ac7 (by omega)]at hc1
     repeat' (first|refine Rn.p ?_|((first|refine Rs.p ?_|with_reducible intro K hK|(refine hK _ ?_;clear hK K));try simp only[go_sem,simprocAttr,hb]))
     clear hb MH hx
     refine ag (fun i:Nat=>i<=g.es.length/\∀j,j<i->kL g d j=true) (fun i=>⟨[(2, .ptr 2 0),(3, .ptr 3 0),(12,eN i)], [(2, .box [eN g.n, .d (sE g.es)]),(3, .box [.d (sP d.pts), .d (sLn d.ls)])]⟩) (fun i=>g.es.length - i) 0 (by simp) ?_ ?_
     ·(refine Le.of ?_ ?_<;>simp[go_sem,simprocAttr])
     rintro i ⟨hi,h9⟩
     rcases adj i g.es.length with hil|N0
     ·have hb:decide ((i:Int)<(g.es.length:Int))=true:=ac6 (by omega)
      have h28:=hD.line hil
      have aaR:(d.ls.getD i []).length<=1000000:=by omega
      repeat' (first|refine Rn.p ?_|((first|refine Rs.p ?_|with_reducible intro K hK|(refine hK _ ?_;clear hK K));try simp only[go_sem,simprocAttr,hb]))
      refine ag (fun x:Nat=>x<=d.pts.length/\oq g d i x=true) (fun x=>⟨[(2, .ptr 2 0),(3, .ptr 3 0),(12,eN i),(13,eN x)], [(2, .box [eN g.n, .d (sE g.es)]),(3, .box [.d (sP d.pts), .d (sLn d.ls)])]⟩) (fun x=>d.pts.length - x) 0 (by simp[oq]) ?_ ?_
      ·(refine Le.of ?_ ?_<;>simp[go_sem,simprocAttr,hb])
      rintro x ⟨hx,hxa⟩
      rcases adj x d.pts.length with hxl|MH
      ·have hb1:decide ((x:Int)<g.n)=true:=ac6 (by omega)
       have dw:=Bi (g:=g) (d:=d) (i:=i) (k:=x)
       rw[hxa,aeo]at dw
       repeat' (first|refine Rn.p ?_|((first|refine Rs.p ?_|with_reducible intro K hK|(refine hK _ ?_;clear hK K)|refine aa (Gx (d.ls.getD i []) (d.pts.getD x (0,0)) aaR) rfl ?_);try simp only[go_sem,simprocAttr,hb1])|with_reducible (first|apply And.intro|refine oD (by kernel_rfl) ?_|(intro h;try simp only[go_sem,simprocAttr,hb1]at h))|omega)
       any_goals (
        have mo:kL g d i=false:=(by
         rw[kL,oq]
         refine we hxl ?_
         simp only[*,decide_false,afp,aeK,aet])
        have f9:=iX hil h9 mo
        have oZ:c=(9,(i:Int)):=(by rw[hc1,ac9 (by omega),f9])
        rw[oZ]
        done)
       all_goals(
        refine⟨x+1,⟨by omega, ?_⟩, ?_,by omega⟩
        ·rw[dw];simp only[*,decide_true,afd,afn,afs]
        ·(refine Le.of ?_ ?_<;>simp[go_sem,simprocAttr,hb1]))
      ·have hb1:decide ((x:Int)<g.n)=false:=ac5 (by omega)
       obtain rfl:x=d.pts.length:=by omega
       repeat' (first|refine Rn.p ?_|((first|refine Rs.p ?_|with_reducible intro K hK|(refine hK _ ?_;clear hK K));try simp only[go_sem,simprocAttr,hb1])|with_reducible (apply And.intro)|omega)
       refine⟨i+1,⟨by omega,x9 h9 hxa⟩, ?_,by omega⟩
       (refine Le.of ?_ ?_<;>simp[go_sem,simprocAttr,hb1])
     ·have hb:decide ((i:Int)<(g.es.length:Int))=false:=ac5 (by omega)
      obtain rfl:i=g.es.length:=by omega
      have f9:=iY h9
      rw[ac7 (by omega)]at hc1
      repeat' (first|refine Rn.p ?_|((first|refine Rs.p ?_|with_reducible intro K hK|(refine hK _ ?_;clear hK K));try simp only[go_sem,simprocAttr,hb]))
      clear hb N0 hi
      refine ag (fun i:Nat=>i<=g.es.length/\∀j,j<i->fZ g d j=true) (fun i=>⟨[(2, .ptr 2 0),(3, .ptr 3 0),(14,eN i)], [(2, .box [eN g.n, .d (sE g.es)]),(3, .box [.d (sP d.pts), .d (sLn d.ls)])]⟩) (fun i=>g.es.length - i) 0 (by simp) ?_ ?_
      ·(refine Le.of ?_ ?_<;>simp[go_sem,simprocAttr])
      rintro i ⟨hi,Zc⟩
      rcases adj i g.es.length with hil|N0
      ·have hb:decide ((i:Int)<(g.es.length:Int))=true:=ac6 (by omega)
       repeat' (first|refine Rn.p ?_|((first|refine Rs.p ?_|with_reducible intro K hK|(refine hK _ ?_;clear hK K));try simp only[go_sem,simprocAttr,hb]))
       refine ag (fun k:Nat=>k<=i/\jm g d i k=true) (fun k=>⟨[(2, .ptr 2 0),(3, .ptr 3 0),(14,eN i),(15,eN k)], [(2, .box [eN g.n, .d (sE g.es)]),(3, .box [.d (sP d.pts), .d (sLn d.ls)])]⟩) (fun k=>i - k) 0 (by simp[jm]) ?_ ?_
       ·(refine Le.of ?_ ?_<;>simp[go_sem,simprocAttr,hb])
       rintro k ⟨hk,hka⟩
       rcases adj k i with cM|RH
       ·have hb1:decide ((k:Int)<(i:Int))=true:=ac6 (by omega)
        have aaS:k<g.es.length:=by omega
        have dw:jm g d i (k+1)=(jm g d i k&& !Bl g d i k):=by rw[yY,Bl,agU]
        repeat' (first|refine Rn.p ?_|((first|refine Rs.p ?_|with_reducible intro K hK|(refine hK _ ?_;clear hK K)|refine aa (CG g d hD i k hil aaS) rfl ?_);try simp only[go_sem,simprocAttr,hb1])|with_reducible (first|apply And.intro|(intro h;try simp only[go_sem,simprocAttr,hb1]at h))|omega)
        ·have mo:fZ g d i=false:=we cM (by rw[Bl,adJ]at h;exact h)
         have f17:=iX hil Zc mo
         have oZ:c=(17,(i:Int)):=by rw[hc1,ac9 (by omega),f17]
         rw[oZ]
        ·have mo:fZ g d i=false:=we cM (by rw[Bl,adJ]at h;exact h)
         have f17:=iX hil Zc mo
         have oZ:c=(17,(i:Int)):=by rw[hc1,ac9 (by omega),f17]
         rw[oZ]
        ·refine⟨k+1,⟨by omega,by rw[dw,hka,h];rfl⟩, ?_,by omega⟩
         (refine Le.of ?_ ?_<;>simp[go_sem,simprocAttr,hb1])
       ·have hb1:decide ((k:Int)<(i:Int))=false:=ac5 (by omega)
        obtain rfl:k=i:=by omega
        repeat' (first|refine Rn.p ?_|((first|refine Rs.p ?_|with_reducible intro K hK|(refine hK _ ?_;clear hK K));try simp only[go_sem,simprocAttr,hb1])|with_reducible (apply And.intro)|omega)
        refine⟨k+1,⟨by omega,x9 Zc hka⟩, ?_,by omega⟩
        (refine Le.of ?_ ?_<;>simp[go_sem,simprocAttr,hb1])
      ·have hb:decide ((i:Int)<(g.es.length:Int))=false:=ac5 (by omega)
       obtain rfl:i=g.es.length:=by omega
       have f17:=iY Zc
       rw[ac7 (by omega)]at hc1
       repeat' (first|refine Rn.p ?_|((first|refine Rs.p ?_|with_reducible intro K hK|(refine hK _ ?_;clear hK K));try simp only[go_sem,simprocAttr,hb])|with_reducible (apply And.intro))
       all_goals rw[hc1]
def aaT(g:Gr)(d:Dr):Bool:=decide (40<g.es.length)||decide (70<d.pts.length)||decide (50<d.ls.length)||d.ls.any fun l=>decide (20<l.length)
def gp:Gr:=⟨2, [(0,1)]⟩
def da:Dr:=⟨[(0,0),(0,1)], [[(0,0),(0,1)]]⟩
def db:Dr:=⟨[(0,1),(0,0)], [[(0,1),(0,0)]]⟩
theorem Vx:kG gp da=(0,0):=by decide
theorem Vy:kG gp db=(7,0):=by decide
theorem jY:Spec Tryz.prog 21 (Args []) [] (eB true) []:=by
 have h1:=Vx
 have h2:=Vy
 simp only[gp,da,db]at h1 h2
 (refine T.h [] [] [.t 0] Tryz.func21 rfl rfl (by kernel_rfl) fun X hX hP hC aA bB=> ?_)
 repeat' (first|refine Rn.p ?_|((first|refine Rs.p ?_|with_reducible intro K hK|(refine hK _ ?_;clear hK K)|(refine dN (fJ gp da (by decide) (by decide) (by decide) (by decide)) ?_ rfl ?_;(focus(simp only[go_sem,simprocAttr,gp,da,db,rE,rP,vP,h1,h2];done)))|(refine dN (fJ gp db (by decide) (by decide) (by decide) (by decide)) ?_ rfl ?_;(focus(simp only[go_sem,simprocAttr,gp,da,db,rE,rP,vP,h1,h2];done))));try simp only[go_sem,simprocAttr,gp,da,db,rE,rP,vP,h1,h2]))
end Go.Ab
end
