/- A part of the proof. -/
import Derived.Test.YtameldglfobjkaaGreatL5P16
set_option linter.unusedSimpArgs false
set_option linter.unusedVariables false
section
namespace Go.Ab
open Go.Proofs
attribute [local congr] ACall.congr gd.congr Nx.congr
set_option maxRecDepth 10000
set_option maxHeartbeats 4000000
def ePl (p:Pl):AV:= .agg [.d (sI p.ord), .d (.sl 1 (vI p.outs))]
attribute [go_sem] ePl
structure Ho (p:Pl):Prop where
 ord:p.ord.length≤17592186043904
 outs:p.outs.length≤9223372036854775807
 each:∀l∈p.outs,l.length≤17592186043904
theorem Hp (g:Gr) (hm:aX g=true) (p:Pl) (hp:Ho p) (res:Bool) (hr:res=true↔cH g p):Spec Tryz.prog 88 (Args [.d (vw g),ePl p]) [] (eB res) []:=by
 rw [← I1 hm] at hr
 have hn:=bF hm
 have ho:=hp.ord
 have Ot:=hp.outs
 by_cases h1:p.outs.length=g.n.toNat∧p.ord.length=g.n.toNat
 rotate_left
 ·have hres:res=false:=by
   rw [← Bool.not_eq_true,hr]
   rintro ⟨h2,h3,_⟩
   exact h1 ⟨h2,h3⟩
  subst hres
  by_cases h2:(p.outs.length:Int)=g.n
  ·have aC:decide ((p.outs.length:Int)=g.n)=true:=decide_eq_true h2
   have aI:decide ((p.ord.length:Int)=g.n)=false:=decide_eq_false fun h3=>h1 ⟨by omega,by omega⟩
   (refine Spec.hd (C:=T.cfg [] []) (rs:= [.t 4]) (T.ah _ _) Tryz.func88 rfl rfl Tryz.ntmps88 Tryz.results88 (by simp [AObj.isNest]) (by simp [AObj.isNest]) (by kernel_rfl) T.mixed fun X hX hP hC aB bK=> ?_)
   repeat' (first|refine Rn.p ?_|(with_reducible apply And.intro)|((first|(refine hK _ ?_;clear hK K)|with_reducible intro K hK|refine Rs.p ?_|((with_reducible first|apply oP|apply oQ);exact rfl));try simp only [go_sem,simprocAttr,aA,aC,aI])|((with_reducible refine oD ?_ ?_);kernel_rfl)|((with_reducible intro h);try simp only [go_sem,simprocAttr,aA,aC,aI] at h)|omega|intro h)
  ·have aC:decide ((p.outs.length:Int)=g.n)=false:=decide_eq_false h2
   (refine Spec.hd (C:=T.cfg [] []) (rs:= [.t 4]) (T.ah _ _) Tryz.func88 rfl rfl Tryz.ntmps88 Tryz.results88 (by simp [AObj.isNest]) (by simp [AObj.isNest]) (by kernel_rfl) T.mixed fun X hX hP hC aB bK=> ?_)
   repeat' (first|refine Rn.p ?_|(with_reducible apply And.intro)|((first|(refine hK _ ?_;clear hK K)|with_reducible intro K hK|refine Rs.p ?_|((with_reducible first|apply oP|apply oQ);exact rfl));try simp only [go_sem,simprocAttr,aA,aC])|((with_reducible refine oD ?_ ?_);kernel_rfl)|((with_reducible intro h);try simp only [go_sem,simprocAttr,aA,aC] at h)|omega|intro h)
 have aC:decide ((p.outs.length:Int)=g.n)=true:=decide_eq_true (by omega)
 have aI:decide ((p.ord.length:Int)=g.n)=true:=decide_eq_true (by omega)
 have za:=fR p.ord
 (refine Spec.hd (C:=T.cfg [] []) (rs:= [.t 4]) (T.ah _ _) Tryz.func88 rfl rfl Tryz.ntmps88 Tryz.results88 (by simp [AObj.isNest]) (by simp [AObj.isNest]) (by kernel_rfl) T.mixed fun X hX hP hC aB bK=> ?_)
 repeat' (first|refine Rn.p ?_|(with_reducible apply And.intro)|((first|(refine hK _ ?_;clear hK K)|with_reducible intro K hK|refine Rs.p ?_|((with_reducible first|apply oP|apply oQ);exact rfl)|(refine aJ hX hC hP [(10000,31)] (cR p.ord) rfl rfl rfl ?_ ?_ ?_ ?_ ?_ ?_ ?_ ?_ ?_ ?_ ?_ ?_ ?_ ?_;(focus (simp only [go_sem,simprocAttr,aA,aC,aI];done));(iterate 12 (focus (simp [go_sem,simprocAttr,aA,aC,aI];done)));try simp only [List.map_cons,List.map_nil])|(refine aP hX hC hP [(10000,31)] (cw p.ord ho) rfl rfl rfl ?_ ?_ ?_ ?_ ?_ ?_ rfl rfl ?_ ?_;(focus (simp only [go_sem,simprocAttr,aA,aC,aI];done));(iterate 6 (focus (simp [go_sem,simprocAttr,aA,aC,aI];done)));try simp only [List.map_cons,List.map_nil]));try simp only [go_sem,simprocAttr,aA,aC,aI])|((with_reducible refine oD ?_ ?_);kernel_rfl)|((with_reducible intro h);try simp only [go_sem,simprocAttr,aA,aC,aI] at h)|omega|intro h)
 clear aC aI
 refine ag (fun k:Nat=>k≤(iN p.ord).length∧∀i:Nat,i<k→(iN p.ord).getD i 0=i) (fun k=>⟨[(0, .d (vw g)),(3, .ptr 3 0),(32, .d (sI (iN p.ord))),(33,eN (iN p.ord).length),(34,eN k)], [(3, .box [.d (sI p.ord), .d (.sl 1 (vI p.outs))])]⟩) (fun k=>(iN p.ord).length - k) 0 (by simp) ?_ ?_
 ·(refine Le.of ?_ ?_<;>simp [go_sem,simprocAttr,aA])
 rintro k ⟨hk,hg⟩
 rcases Nat.lt_or_ge k (iN p.ord).length with hlt|hge
 ·have hb:decide ((k:Int)<((iN p.ord).length:Int))=true:=decide_eq_true (by omega)
  by_cases he:(iN p.ord).getD k 0=k
  ·have aI:decide ((iN p.ord).getD k 0=(k:Int))=true:=decide_eq_true he
   repeat' (first|refine Rn.p ?_|(with_reducible apply And.intro)|((first|(refine hK _ ?_;clear hK K)|with_reducible intro K hK|refine Rs.p ?_|((with_reducible first|apply oP|apply oQ);exact rfl)|(refine aJ hX hC hP [(10000,31)] (cR p.ord) rfl rfl rfl ?_ ?_ ?_ ?_ ?_ ?_ ?_ ?_ ?_ ?_ ?_ ?_ ?_ ?_;(focus (simp only [go_sem,simprocAttr,aA,hb,aI];done));(iterate 12 (focus (simp [go_sem,simprocAttr,aA,hb,aI];done)));try simp only [List.map_cons,List.map_nil])|(refine aP hX hC hP [(10000,31)] (cw p.ord ho) rfl rfl rfl ?_ ?_ ?_ ?_ ?_ ?_ rfl rfl ?_ ?_;(focus (simp only [go_sem,simprocAttr,aA,hb,aI];done));(iterate 6 (focus (simp [go_sem,simprocAttr,aA,hb,aI];done)));try simp only [List.map_cons,List.map_nil]));try simp only [go_sem,simprocAttr,aA,hb,aI])|((with_reducible refine oD ?_ ?_);kernel_rfl)|((with_reducible intro h);try simp only [go_sem,simprocAttr,aA,hb,aI] at h)|omega|intro h)
   refine ⟨k+1,⟨by omega,fun i hi=> ?_⟩, ?_,by omega⟩
   ·by_cases hik:i=k
    ·subst hik;exact he
    ·exact hg i (by omega)
   ·(refine Le.of ?_ ?_<;>simp [go_sem,simprocAttr,aA,hb,aI])
  ·have aI:decide ((iN p.ord).getD k 0=(k:Int))=false:=decide_eq_false he
   have hres:res=false:=by
    rw [← Bool.not_eq_true,hr]
    rintro ⟨_,_,h3,_⟩
    exact he (h3 k hlt)
   subst hres
   repeat' (first|refine Rn.p ?_|(with_reducible apply And.intro)|((first|(refine hK _ ?_;clear hK K)|with_reducible intro K hK|refine Rs.p ?_|((with_reducible first|apply oP|apply oQ);exact rfl)|(refine aJ hX hC hP [(10000,31)] (cR p.ord) rfl rfl rfl ?_ ?_ ?_ ?_ ?_ ?_ ?_ ?_ ?_ ?_ ?_ ?_ ?_ ?_;(focus (simp only [go_sem,simprocAttr,aA,hb,aI];done));(iterate 12 (focus (simp [go_sem,simprocAttr,aA,hb,aI];done)));try simp only [List.map_cons,List.map_nil])|(refine aP hX hC hP [(10000,31)] (cw p.ord ho) rfl rfl rfl ?_ ?_ ?_ ?_ ?_ ?_ rfl rfl ?_ ?_;(focus (simp only [go_sem,simprocAttr,aA,hb,aI];done));(iterate 6 (focus (simp [go_sem,simprocAttr,aA,hb,aI];done)));try simp only [List.map_cons,List.map_nil]));try simp only [go_sem,simprocAttr,aA,hb,aI])|((with_reducible refine oD ?_ ?_);kernel_rfl)|((with_reducible intro h);try simp only [go_sem,simprocAttr,aA,hb,aI] at h)|omega|intro h)
 have hb:decide ((k:Int)<((iN p.ord).length:Int))=false:=decide_eq_false (by omega)
 repeat' (first|refine Rn.p ?_|(with_reducible apply And.intro)|((first|(refine hK _ ?_;clear hK K)|with_reducible intro K hK|refine Rs.p ?_|((with_reducible first|apply oP|apply oQ);exact rfl)|(refine aJ hX hC hP [(10000,31)] (cR p.ord) rfl rfl rfl ?_ ?_ ?_ ?_ ?_ ?_ ?_ ?_ ?_ ?_ ?_ ?_ ?_ ?_;(focus (simp only [go_sem,simprocAttr,aA,hb];done));(iterate 12 (focus (simp [go_sem,simprocAttr,aA,hb];done)));try simp only [List.map_cons,List.map_nil])|(refine aP hX hC hP [(10000,31)] (cw p.ord ho) rfl rfl rfl ?_ ?_ ?_ ?_ ?_ ?_ rfl rfl ?_ ?_;(focus (simp only [go_sem,simprocAttr,aA,hb];done));(iterate 6 (focus (simp [go_sem,simprocAttr,aA,hb];done)));try simp only [List.map_cons,List.map_nil]));try simp only [go_sem,simprocAttr,aA,hb])|((with_reducible refine oD ?_ ?_);kernel_rfl)|((with_reducible intro h);try simp only [go_sem,simprocAttr,aA,hb] at h)|omega|intro h)
 obtain rfl:k=(iN p.ord).length:=by omega
 clear hb hk
 refine ag (fun x:Nat=>x≤p.outs.length∧∀i:Nat,i<x→iN (p.outs.getD i [])=bw (·.1) g i) (fun x=>⟨[(0, .d (vw g)),(44, .d (.sl 1 (vI p.outs))),(45,eN p.outs.length),(46,eN x)], []⟩) (fun x=>p.outs.length - x) 0 (by simp) ?_ ?_
 ·refine Le.of ?_ ?_<;>simp [go_sem,simprocAttr,aA]
 rintro x ⟨hx,Hq⟩
 rcases Nat.lt_or_ge x p.outs.length with hxl|OH
 ·have hb:decide ((x:Int)<(p.outs.length:Int))=true:=decide_eq_true (by omega)
  have hv:=nN hxl
  have hl:=hp.each _ (aD (d:= []) hxl)
  have hn2:∀h:iN (p.outs.getD x [])=bw (·.1) g x,∀i:Nat,i<x+1→iN (p.outs.getD i [])=bw (·.1) g i:=fun h i hi=>by
   by_cases Ub:i=x
   ·subst Ub;exact h
   ·exact Hq i (by omega)
  have uf:¬iN (p.outs.getD x [])=bw (·.1) g x→res=false:=fun h=>by
   rw [← Bool.not_eq_true,hr]
   rintro ⟨_,_,_,h4⟩
   exact h (h4 x hxl)
  generalize p.outs.getD x []=l at hv hl hn2 uf
  have Uc:=fR l
  by_cases he:iN l=bw (·.1) g x
  ·have aI:decide (iN l=bw (·.1) g (x:Int))=true:=decide_eq_true he
   repeat' (first|refine Rn.p ?_|(with_reducible apply And.intro)|((first|(refine hK _ ?_;clear hK K)|with_reducible intro K hK|refine Rs.p ?_|((with_reducible first|apply oP|apply oQ);exact rfl)|(refine aJ hX hC hP [(10000,52)] (cR l) rfl rfl rfl ?_ ?_ ?_ ?_ ?_ ?_ ?_ ?_ ?_ ?_ ?_ ?_ ?_ ?_;(focus (simp only [go_sem,simprocAttr,hb,hv,aI];done));(iterate 12 (focus (simp [go_sem,simprocAttr,hb,hv,aI];done)));try simp only [List.map_cons,List.map_nil])|(refine aP hX hC hP [(10000,52)] (cw l hl) rfl rfl rfl ?_ ?_ ?_ ?_ ?_ ?_ rfl rfl ?_ ?_;(focus (simp only [go_sem,simprocAttr,hb,hv,aI];done));(iterate 6 (focus (simp [go_sem,simprocAttr,hb,hv,aI];done)));try simp only [List.map_cons,List.map_nil])|refine aa hX hC hP (jf g hm (x:Int)) rfl rfl rfl (by simp only [go_sem,simprocAttr,hb,hv,aI]) rfl ?_|refine aa hX hC hP (dU (iN l) (bw (·.1) g x) (by omega)) rfl rfl rfl (by simp only [go_sem,simprocAttr,hb,hv,aI]) rfl ?_);try simp only [go_sem,simprocAttr,hb,hv,aI])|((with_reducible refine oD ?_ ?_);kernel_rfl)|((with_reducible intro h);try simp only [go_sem,simprocAttr,hb,hv,aI] at h)|omega|intro h)
   refine ⟨x+1,⟨by omega,hn2 he⟩, ?_,by omega⟩
   (refine Le.of ?_ ?_<;>simp [go_sem,simprocAttr,hb,hv,aI])
  ·have aI:decide (iN l=bw (·.1) g (x:Int))=false:=decide_eq_false he
   have hres:=uf he
   subst hres
   repeat' (first|refine Rn.p ?_|(with_reducible apply And.intro)|((first|(refine hK _ ?_;clear hK K)|with_reducible intro K hK|refine Rs.p ?_|((with_reducible first|apply oP|apply oQ);exact rfl)|(refine aJ hX hC hP [(10000,52)] (cR l) rfl rfl rfl ?_ ?_ ?_ ?_ ?_ ?_ ?_ ?_ ?_ ?_ ?_ ?_ ?_ ?_;(focus (simp only [go_sem,simprocAttr,hb,hv,aI];done));(iterate 12 (focus (simp [go_sem,simprocAttr,hb,hv,aI];done)));try simp only [List.map_cons,List.map_nil])|(refine aP hX hC hP [(10000,52)] (cw l hl) rfl rfl rfl ?_ ?_ ?_ ?_ ?_ ?_ rfl rfl ?_ ?_;(focus (simp only [go_sem,simprocAttr,hb,hv,aI];done));(iterate 6 (focus (simp [go_sem,simprocAttr,hb,hv,aI];done)));try simp only [List.map_cons,List.map_nil])|refine aa hX hC hP (jf g hm (x:Int)) rfl rfl rfl (by simp only [go_sem,simprocAttr,hb,hv,aI]) rfl ?_|refine aa hX hC hP (dU (iN l) (bw (·.1) g x) (by omega)) rfl rfl rfl (by simp only [go_sem,simprocAttr,hb,hv,aI]) rfl ?_);try simp only [go_sem,simprocAttr,hb,hv,aI])|((with_reducible refine oD ?_ ?_);kernel_rfl)|((with_reducible intro h);try simp only [go_sem,simprocAttr,hb,hv,aI] at h)|omega|intro h)
 ·have hb:decide ((x:Int)<(p.outs.length:Int))=false:=decide_eq_false (by omega)
  obtain rfl:x=p.outs.length:=by omega
  have hres:res=true:=hr.2 ⟨h1.1,h1.2,fun i hi=>hg i (by omega),Hq⟩
  subst hres
  repeat' (first|refine Rn.p ?_|(with_reducible apply And.intro)|((first|(refine hK _ ?_;clear hK K)|with_reducible intro K hK|refine Rs.p ?_|((with_reducible first|apply oP|apply oQ);exact rfl)|(refine aJ hX hC hP [(10000,52)] (cR l) rfl rfl rfl ?_ ?_ ?_ ?_ ?_ ?_ ?_ ?_ ?_ ?_ ?_ ?_ ?_ ?_;(focus (simp only [go_sem,simprocAttr,hb];done));(iterate 12 (focus (simp [go_sem,simprocAttr,hb];done)));try simp only [List.map_cons,List.map_nil])|(refine aP hX hC hP [(10000,52)] (cw l hl) rfl rfl rfl ?_ ?_ ?_ ?_ ?_ ?_ rfl rfl ?_ ?_;(focus (simp only [go_sem,simprocAttr,hb];done));(iterate 6 (focus (simp [go_sem,simprocAttr,hb];done)));try simp only [List.map_cons,List.map_nil])|refine aa hX hC hP (jf g hm (x:Int)) rfl rfl rfl (by simp only [go_sem,simprocAttr,hb]) rfl ?_|refine aa hX hC hP (dU (iN l) (bw (·.1) g x) (by omega)) rfl rfl rfl (by simp only [go_sem,simprocAttr,hb]) rfl ?_);try simp only [go_sem,simprocAttr,hb])|((with_reducible refine oD ?_ ?_);kernel_rfl)|((with_reducible intro h);try simp only [go_sem,simprocAttr,hb] at h)|omega|intro h)
end Go.Ab
end
section
namespace Go.Ab
open Go.Proofs
attribute [local congr] ACall.congr gd.congr Nx.congr
set_option maxRecDepth 10000
set_option maxHeartbeats 8000000
def Ud (m:Nat) (fl:List Int):List Int:=(List.range m).map fun i:Nat=>if (i:Int)∈fl then (1:Int) else 0
end Go.Ab
end
section
namespace Go.Ab
open Go.Proofs
attribute [local congr] ACall.congr gd.congr Nx.congr
set_option maxRecDepth 10000
set_option maxHeartbeats 8000000
def gE (b:Bool) (g:Gr) (p:Pl):(List (List It) × List It) × Int × Int:=
 if b=false then (([], []),(1,0)) else
 match ng g p g.n.toNat with
 |some i=>(([], []),(3,(i:Int)))
 |none=>((iq g p g.n.toNat,(fK g p g.n.toNat).row),(0,0))
theorem Lc {n:Nat} :List.replicate n [D.sl 3 []]=vT (List.replicate n []):=by simp [vT,sT]
theorem Ld {ls:List (List It)} {k:Nat} {l:List It} :(vT ls).set k [sT l]=vT (ls.set k l):=by simp [vT,List.map_set]
theorem EJ {g:Gr} {p:Pl} {k:Nat} :iq g p (k+1)=(iq g p k).set (bJ p k).toNat (qx g p k):=rfl
end Go.Ab
end
section
namespace Go.Ab
open Go.Proofs
attribute [local congr] ACall.congr gd.congr Nx.congr
set_option maxRecDepth 10000
set_option maxHeartbeats 8000000
theorem wk (g:Gr) (hl:g.es.length≤1000) (p:Pl) (hp:Ho p) (b:Bool) (hr:b=true↔(dD g).1=0∧cH g p):
 Spec Tryz.prog 38 (Args [eG g,ePl p]) [] (.tup [.d (.sl 1 (vT (gE b g p).1.1)), .d (sT (gE b g p).1.2),eF ((gE b g p).2.1,(gE b g p).2.2, [])]) []:=by
 by_cases hc:(dD g).1=0
 rotate_left
 ·obtain rfl:b=false:=by
   rw [← Bool.not_eq_true,hr]
   exact fun h=>hc h.1
  have hR:gE false g p=(([], []),(1,0)):=rfl
  rw [hR]
  (refine Spec.hd (C:=T.cfg [] []) (rs:= [.t 4, .t 5, .c 6 64]) (T.ah _ _) Tryz.func38 rfl rfl Tryz.ntmps38 Tryz.results38 (by simp [AObj.isNest]) (by simp [AObj.isNest]) (by kernel_rfl) T.mixed fun X hX hP hC aB bK=> ?_)
  repeat' (first|refine Rn.p ?_|(with_reducible apply And.intro)|((first|(refine hK _ ?_;clear hK K)|with_reducible intro K hK|refine Rs.p ?_|((with_reducible first|apply oP|apply oQ);exact rfl)|refine aa hX hC hP (Eu g hl hc) rfl rfl rfl (by simp only [go_sem,simprocAttr,vT,List.map_nil]) rfl ?_);try simp only [go_sem,simprocAttr,vT,List.map_nil])|((with_reducible refine oD ?_ ?_);kernel_rfl)|((with_reducible intro h);try simp only [go_sem,simprocAttr,vT,List.map_nil] at h)|omega|intro h)
 have hm:=bW hc
 have hn:=bF hm
 have hr:b=true↔cH g p:=by rw [hr];exact ⟨fun h=>h.2,fun h=>⟨hc,h⟩⟩
 have hO:=Hp g hm p hp b hr
 cases b with
 |false=>
  have hR:gE false g p=(([], []),(1,0)):=rfl
  rw [hR]
  (refine Spec.hd (C:=T.cfg [] []) (rs:= [.t 4, .t 5, .c 6 64]) (T.ah _ _) Tryz.func38 rfl rfl Tryz.ntmps38 Tryz.results38 (by simp [AObj.isNest]) (by simp [AObj.isNest]) (by kernel_rfl) T.mixed fun X hX hP hC aB bK=> ?_)
  repeat' (first|refine Rn.p ?_|(with_reducible apply And.intro)|((first|(refine hK _ ?_;clear hK K)|with_reducible intro K hK|refine Rs.p ?_|((with_reducible first|apply oP|apply oQ);exact rfl)|(refine uE hX hC hP [(10000,13)] (xh g hl hc hm) rfl rfl rfl ?_ ?_ ?_ ?_ ?_ ?_ ?_ ?_ ?_ ?_ ?_ ?_ ?_ ?_;(focus (simp only [go_sem,simprocAttr,vT,List.map_nil];done));(iterate 12 (focus (simp [go_sem,simprocAttr,vT,List.map_nil];done)));try simp only [List.map_cons,List.map_nil])|refine aa hX hC hP (iT g hm) rfl rfl rfl (by simp only [go_sem,simprocAttr,vT,List.map_nil]) rfl ?_|refine aa hX hC hP (hO) rfl rfl rfl (by simp only [go_sem,simprocAttr,vT,List.map_nil]) rfl ?_);try simp only [go_sem,simprocAttr,vT,List.map_nil])|((with_reducible refine oD ?_ ?_);kernel_rfl)|((with_reducible intro h);try simp only [go_sem,simprocAttr,vT,List.map_nil] at h)|omega|intro h)
 |true=>
 have tF:=hr.1 rfl
 have hle:=dx tF
 have hR:gE true g p=match ng g p g.n.toNat with
  |some i=>(([], []),(3,(i:Int)))
  |none=>((iq g p g.n.toNat,(fK g p g.n.toNat).row),(0,0)):=rfl
 generalize gE true g p=R at hR
 (refine Spec.hd (C:=T.cfg [] []) (rs:= [.t 4, .t 5, .c 6 64]) (T.ah _ _) Tryz.func38 rfl rfl Tryz.ntmps38 Tryz.results38 (by simp [AObj.isNest]) (by simp [AObj.isNest]) (by kernel_rfl) T.mixed fun X hX hP hC aB bK=> ?_)
 repeat' (first|(show cA _ (.seq (.region 5 _ _) _) _ _;(refine Ge 13 0 3 rfl rfl rfl ?_;simp only [List.set_cons_zero,List.set_cons_succ,go_sem,simprocAttr]);(refine kj hX 13 2 100 (.tip 3 1 []) rfl rfl rfl (by simp only [go_sem,simprocAttr]) (by decide) (by simp [go_sem,simprocAttr]) ⟨3,1,by decide, .inr rfl⟩ ?_;simp only [List.set_cons_zero,List.set_cons_succ,go_sem,simprocAttr]))|refine Rn.p ?_|(with_reducible apply And.intro)|((first|(refine hK _ ?_;clear hK K)|with_reducible intro K hK|refine Rs.p ?_|((with_reducible first|apply oP|apply oQ);exact rfl)|(refine uE hX hC hP [(10000,13)] (xh g hl hc hm) rfl rfl rfl ?_ ?_ ?_ ?_ ?_ ?_ ?_ ?_ ?_ ?_ ?_ ?_ ?_ ?_;(focus (simp only [go_sem,simprocAttr];done));(iterate 12 (focus (simp [go_sem,simprocAttr];done)));try simp only [List.map_cons,List.map_nil])|refine aa hX hC hP (iT g hm) rfl rfl rfl (by simp only [go_sem,simprocAttr]) rfl ?_|refine aa hX hC hP (hO) rfl rfl rfl (by simp only [go_sem,simprocAttr]) rfl ?_);try simp only [go_sem,simprocAttr])|((with_reducible refine oD ?_ ?_);kernel_rfl)|((with_reducible intro h);try simp only [go_sem,simprocAttr] at h)|omega|intro h)
 rw [Lc]
 refine ag (fun k:Nat=>k≤g.n.toNat∧∀j,j<k→Ar g p j=true) (fun k=>⟨[(3, .ptr 3 0),(4, .ref 28),(6, .ptr 6 0),(7, .ptr 13 0),(30, .d (sI p.ord)),(31,eN p.ord.length),(32,eN k)], [(28, .own 78 1 (vT (iq g p k))),(13, .box [.d (sT (fK g p k).row), .d (vw g), .ref 100]),(100, .tip 3 1 ((fK g p k).pl.map rI)),(6, .box [eN 0,eN 0, .nil 3]),(3, .box [.d (sI p.ord), .d (.sl 1 (vI p.outs))])]⟩) (fun k=>g.n.toNat - k) 0 (by simp) ?_ ?_
 ·refine Le.of ?_ ?_<;>simp [go_sem,simprocAttr,TM,fK,iq]
 rintro k ⟨hk,hok⟩
 obtain ⟨hi,_,hrl⟩:=lT hm tF hk hok
 have hel:=qz (g:=g) (p:=p) (k:=k)
 have hmul:k*(g.es.length+1)≤64*129:=Nat.mul_le_mul (by omega) (by omega)
 rcases Nat.lt_or_ge k g.n.toNat with hlt|hge
 ·have hb:decide ((k:Int)<(p.ord.length:Int))=true:=decide_eq_true (by omega)
  have Rg:=dZ tF hlt
  have gJ:=EJ (g:=g) (p:=p) (k:=k)
  have L6:fK g p (k+1)=(aN g (fK g p k) (bJ p k) (kU p (bJ p k))).2:=rfl
  have Hq:qx g p k=(aN g (fK g p k) (bJ p k) (kU p (bJ p k))).1.1:=rfl
  have hpk:=G8 tF hlt
  have Cc:=G9 (g:=g) (p:=p) (k:=k)
  have hsk:Ar g p k=false→R=(([], []),(3,(k:Int))):=fun h=>by
   rw [hR,vn.2 ⟨hlt,h,hok⟩]
  have jK:=yP tF Rg.1 Rg.2
  have qV:p.ord.getD k 0=bJ p k:=rfl
  have NV:(fK g p k).pl.length≤64:=by
   rcases NU hi.toiO with h|h
   ·omega
   ·rw [h];simp
  obtain ⟨x,hx⟩:∃x:Nat,bJ p k=x:=⟨(bJ p k).toNat,by omega⟩
  rw [hx] at qV L6 Hq hpk Cc Rg jK gJ
  have hxl:x<p.outs.length:=by have:=tF.1;omega
  have hv:=nN hxl
  have hla:kU p (x:Int)=p.outs.getD x []:=by unfold kU;rw [Int.toNat_natCast]
  rw [hla] at L6 Hq hpk Cc jK
  rw [Int.toNat_natCast] at gJ
  have JU:=Ax g hm (fK g p k) hi (x:Int) (p.outs.getD x []) (by omega) (by omega) (by omega)
  have fP:=Ld (ls:=iq g p k) (k:=x) (l:=qx g p k)
  generalize p.outs.getD x []=o at hv L6 Hq hpk Cc JU
  rw [← gJ] at fP
  generalize fK g p k=f at L6 Hq hpk Cc JU hi hrl NV
  have ON:x<(iq g p k).length:=by omega
  have hvl:(vT (iq g p k)).length=(iq g p k).length:=vT_length
  cases I6:Ar g p k with
  |false=>
   rw [Cc I6] at JU
   simp only at JU
   have Ue:=hsk I6
   subst Ue
   repeat' (first|refine Rn.p ?_|(with_reducible apply And.intro)|((first|(refine hK _ ?_;clear hK K)|with_reducible intro K hK|refine Rs.p ?_|((with_reducible first|apply oP|apply oQ);exact rfl)|(refine aJ hX hC hP [(10000,13),(10001,100),(10002,101)] (JU) rfl rfl rfl ?_ ?_ ?_ ?_ ?_ ?_ ?_ ?_ ?_ ?_ ?_ ?_ ?_ ?_;(focus (simp only [go_sem,simprocAttr,hb,qV,hv,oy,BY,List.map_nil];done));(iterate 12 (focus (simp [go_sem,simprocAttr,hb,qV,hv,oy,BY,List.map_nil];done)));try simp only [List.map_cons,List.map_nil]));try simp only [go_sem,simprocAttr,hb,qV,hv,oy,BY,List.map_nil])|((with_reducible refine oD ?_ ?_);kernel_rfl)|((with_reducible intro h);try simp only [go_sem,simprocAttr,hb,qV,hv,oy,BY,List.map_nil] at h)|omega|intro h)
   all_goals rfl
  |true=>
   rw [hpk I6] at JU
   have vr:(aN g f (x:Int) o).1.2=0:=rfl
   rw [Hq] at fP
   generalize aN g f (x:Int) o=su at L6 Hq JU vr fP
   generalize VI:iq g p k=E at fP ON hel hvl
   have L7:=fun d=>tA ON d
   repeat' (first|(show cA _ (.region 11 _ _) _ _;(refine tg hX 13 2 101 100 rfl rfl rfl (by first|exact .inl rfl|exact .inr rfl) (by decide) (by decide) ?_;simp only [List.set_cons_zero,List.set_cons_succ,go_sem,simprocAttr,hb,qV,hv,oy,BY,vr,fP,L7,List.drop_succ_cons,List.drop_zero]))|refine Rn.p ?_|(with_reducible apply And.intro)|((first|(refine hK _ ?_;clear hK K)|with_reducible intro K hK|refine Rs.p ?_|((with_reducible first|apply oP|apply oQ);exact rfl)|(refine aJ hX hC hP [(10000,13),(10001,100),(10002,101)] (JU) rfl rfl rfl ?_ ?_ ?_ ?_ ?_ ?_ ?_ ?_ ?_ ?_ ?_ ?_ ?_ ?_;(focus (simp only [go_sem,simprocAttr,hb,qV,hv,oy,BY,vr,fP,L7,List.drop_succ_cons,List.drop_zero];done));(iterate 12 (focus (simp [go_sem,simprocAttr,hb,qV,hv,oy,BY,vr,fP,L7,List.drop_succ_cons,List.drop_zero];done)));try simp only [List.map_cons,List.map_nil]));try simp only [go_sem,simprocAttr,hb,qV,hv,oy,BY,vr,fP,L7,List.drop_succ_cons,List.drop_zero])|((with_reducible refine oD ?_ ?_);kernel_rfl)|((with_reducible intro h);try simp only [go_sem,simprocAttr,hb,qV,hv,oy,BY,vr,fP,L7,List.drop_succ_cons,List.drop_zero] at h)|omega|intro h)
   refine ⟨k+1,⟨by omega,fun j hj=> ?_⟩, ?_,by omega⟩
   ·by_cases e:j=k
    ·subst e;exact I6
    ·exact hok j (by omega)
   ·rw [L6]
    have NW:(vT E).set x [D.sl 3 (List.map rT su.1.1)]=vT (iq g p (k+1)):=fP
    refine Le.of ?_ ?_<;>simp [go_sem,simprocAttr,hb,qV,hv,oy,BY,vr,fP,L7,List.drop_succ_cons,List.drop_zero,NW]
 have hb:decide ((k:Int)<(p.ord.length:Int))=false:=decide_eq_false (by omega)
 obtain rfl:k=g.n.toNat:=by omega
 rw [jC.2 hok] at hR
 subst hR
 repeat' (first|refine Rn.p ?_|(with_reducible apply And.intro)|((first|(refine hK _ ?_;clear hK K)|with_reducible intro K hK|refine Rs.p ?_|((with_reducible first|apply oP|apply oQ);exact rfl)|(refine sj hX hC hP 60 (Er [vw g,sI (fK g p g.n.toNat).pl] (fK g p g.n.toNat).row (by omega)) rfl rfl rfl ?_ ?_ (by first|exact ⟨_,_,_,rfl,xb⟩|exact ⟨_,_,_,rfl,xd⟩|exact ⟨_,_,_,rfl,xg⟩) rfl (by decide) ?_;(iterate 2 (focus (simp only [go_sem,simprocAttr,hb];done)));simp only [go_sem,simprocAttr,hb]));try simp only [go_sem,simprocAttr,hb])|((with_reducible refine oD ?_ ?_);kernel_rfl)|((with_reducible intro h);try simp only [go_sem,simprocAttr,hb] at h)|omega|intro h)
end Go.Ab
end
section
namespace Go.Ab
open Go.Proofs
attribute [local congr] ACall.congr gd.congr Nx.congr
set_option maxRecDepth 10000
set_option maxHeartbeats 8000000
def VJ (n:Int) (es:List Edge) (ord:List Int) (O:List (List Int)):List (Nat × AObj):= [(10000, .box [eN n, .ref 10001, .ref 10002, .ref 10003]),(10001, .tip 56 2 (es.map rE)),(10002, .tip 3 1 (ord.map rI)),(10003, .own 25 1 (vI O))]
def VK (n:Int) (es:List Edge) (ord:List Int) (O:List (List Int)):List (Nat × AObj):= [(10000, .box [eN n, .ref 10004, .ref 10002, .ref 10003]),(10004, .tip 56 2 (es.map rE)),(10002, .tip 3 1 (ord.map rI)),(10003, .own 25 1 (vI O))]
def Uf (x:Int) (items:List It):List Edge:=(loose items).map fun v=>(v,x)
end Go.Ab
end
section
namespace Go.Ab
open Go.Proofs
attribute [local congr] ACall.congr gd.congr Nx.congr
set_option maxRecDepth 10000
set_option maxHeartbeats 16000000
def pz:Pl:=⟨[], []⟩
def Ug (b:Bool) (g:Gr) (p:Pl):Gr × Pl × Int:=
 if (gE b g p).2.1≠0 then (gz,pz,1) else if 64<(Hl g p).n∨128<(Hl g p).es.length then (gz,pz,10) else (Hl g p,Re g p,0)
end Go.Ab
end
section
namespace Go.Ab
open Go.Proofs
attribute [local congr] ACall.congr gd.congr Nx.congr
set_option maxRecDepth 10000
set_option maxHeartbeats 16000000
def Uh (p:Pl) (x:Gr) (k:Nat):List (List Int):=(List.range k).map fun v=>if 0<(p.outs.getD v []).length then p.outs.getD v [] else dG x (v:Int)
end Go.Ab
end
section
namespace Go.Ab
open Go.Proofs
attribute [local congr] ACall.congr gd.congr Nx.congr
set_option maxRecDepth 10000
set_option maxHeartbeats 8000000
def Rh (g:Gr) (p:Pl):Bool:=decide (200<g.es.length)||decide (100<p.ord.length)||decide (100<p.outs.length)||p.outs.any fun l=>decide (200<l.length)
structure Sm (p:Pl):Prop where
 ord:p.ord.length≤9223372036854775807
 outs:p.outs.length≤9223372036854775807
 each:∀l∈p.outs,l.length≤9223372036854775807
def H9 (g:Gr):Bool:=decide ((dD g).1=0)&&decide ((dN (·.1) g).length=1)
end Go.Ab
end
section
namespace Go.Ab
open Go.Proofs
attribute [local congr] ACall.congr gd.congr Nx.congr
set_option maxRecDepth 10000
set_option maxHeartbeats 8000000
def g16:Gr:=⟨3, [(0,1),(0,2)]⟩
def VL:Pl:=⟨[0,1,2], [[0,1], [], []]⟩
def VM:Gr:=⟨4, [(0,1),(0,2),(1,3),(2,3)]⟩
def VN:Pl:=⟨[0,1,2,3], [[0,1], [2], [3], []]⟩
end Go.Ab
end
section
namespace Go.Ab
open Go.Proofs
attribute [local congr] ACall.congr gd.congr Nx.congr
set_option maxRecDepth 10000
def VO (l:List Int) (k:Nat):Bool:=(List.range k).all fun i=>decide (l.getD i 0=(i:Int))
def I7 (g:Gr) (names order:List Int) (k:Nat):List Edge:=(List.range k).map fun i=>(names.getD (g.es.getD (order.getD i 0).toNat (0,0)).1.toNat 0,names.getD (g.es.getD (order.getD i 0).toNat (0,0)).2.toNat 0)
def iG (g:Gr) (names order:List Int):Gr:=⟨g.n,I7 g names order order.length⟩
theorem Ay {g:Gr} {names order:List Int} {k:Nat} :(I7 g names order k).length=k:=by simp [I7]
def NX (g:Gr) (names order:List Int):Bool:=aX g&&mZ names g.n&&mZ order g.es.length
def Ui (g:Gr) (names order:List Int):Gr:=if NX g names order then iG g names order else ⟨0, []⟩
end Go.Ab
end
section
namespace Go.Ab
def Ed (g:Gr) (a b:Int):Prop:=∃i,i<g.es.length∧tl g i=a∧hd g i=b
def OO (g:Gr) (l:List Int):Prop:=∀i,i<l.length→Ed g (l.getD i 0) (l.getD ((i+1) % l.length) 0)
def Hr (g:Gr) (way:List Int) (at_:Int):Prop:=∀p,p<way.length→Ed g ((way++ [at_]).getD (p+1) 0) (way.getD p 0)
theorem rN {l:List Int} {a:Int} :(l++ [a]).getD l.length 0=a:=by
 rw [List.getD_eq_getElem?_getD,List.getElem?_append_right (Nat.le_refl _)];simp
theorem vt {g:Gr} (hm:aX g=true):∀(f:Nat) (way:List Int) (a:Nat),a<g.n.toNat→(a:Int)∉aO g→Hr g way a→left g way≤f→
 Hr g (lF g (cW g (aO g)) f way a).1 (lF g (cW g (aO g)) f way a).2∧0≤(lF g (cW g (aO g)) f way a).2∧(lF g (cW g (aO g)) f way a).2∈(lF g (cW g (aO g)) f way a).1
 |f,way,a,ha,hn,hc,hl=>by
  by_cases hmem:(a:Int)∈way
  ·rw [kB (.inr hmem)]
   exact ⟨hc,by simp only;omega,hmem⟩
  ·have hla:=jo ha hmem
   cases f with
   |zero=>omega
   |succ f=>
    obtain ⟨⟨i,hi,Uj,l7,NC⟩,_⟩:=uO hm (KN hm ha hn)
    have htr:=cM hm hi
    rw [l7] at htr
    obtain ⟨b,pI⟩:∃b:Nat,jP g (cW g (aO g)) a=b:=⟨(jP g (cW g (aO g)) a).toNat,by omega⟩
    rw [pI] at NC htr l7
    have e1:lF g (cW g (aO g)) (f+1) way a=lF g (cW g (aO g)) f (way++ [(a:Int)]) b:=by
     simp only [lF];rw [if_neg (by intro h;rcases h with h|h;omega;exact hmem h),pI]
    rw [e1]
    refine vt hm f (way++ [(a:Int)]) b (by omega) NC ?_ (by omega)
    intro p hp
    rw [List.length_append,List.length_singleton] at hp
    by_cases ez:p<way.length
    ·have:=hc p ez
     rw [qi (by simp;omega),qi ez]
     exact this
    ·have:p=way.length:=by omega
     subst this
     have e2:=rN (l:=way++ [(a:Int)]) (a:=(b:Int))
     rw [List.length_append,List.length_singleton] at e2
     rw [e2,rN]
     exact ⟨i,hi,l7,Uj⟩
theorem rO {l:List Int} {k p:Nat} :(l.drop k).getD p 0=l.getD (k+p) 0:=by
 rw [List.getD_eq_getElem?_getD,List.getElem?_drop, ← List.getD_eq_getElem?_getD]
theorem OO.IJ {g:Gr} {l:List Int} (h:∀p,p<l.length→Ed g (l.getD ((p+1) % l.length) 0) (l.getD p 0)) (h0:0<l.length):OO g (me l.reverse):=by
 have OG:0<l.reverse.length:=by simpa using h0
 obtain ⟨k,Bf,hk2,_⟩:=eS (jq OG)
 rw [List.length_reverse] at hk2
 have e1:me l.reverse=l.reverse.drop k++l.reverse.take k:=by simp only [me,Bf,Int.toNat_natCast]
 have hlen:(me l.reverse).length=l.length:=by rw [e1];simp;omega
 have hg:∀i,i<l.length→(me l.reverse).getD i 0=l.getD (l.length - 1 - (i+k) % l.length) 0:=by
  intro i hi
  rw [e1,List.getD_eq_getElem?_getD]
  by_cases hik:i<l.length - k
  ·rw [List.getElem?_append_left (by simp;omega),List.getElem?_drop,List.getElem?_reverse (by omega),Nat.mod_eq_of_lt (by omega), ← List.getD_eq_getElem?_getD]
   congr 1;omega
  ·rw [List.getElem?_append_right (by simp;omega),List.length_drop,List.length_reverse,List.getElem?_take,if_pos (by omega),List.getElem?_reverse (by omega), ← List.getD_eq_getElem?_getD]
   have:(i+k) % l.length=i+k - l.length:=by rw [Nat.mod_eq_sub_mod (by omega),Nat.mod_eq_of_lt (by omega)]
   rw [this];congr 1;omega
 intro i hi
 rw [hlen] at hi ⊢
 rw [hg i hi,hg _ (Nat.mod_lt _ h0)]
 have hmm:((i+1) % l.length+k) % l.length=((i+k) % l.length+1) % l.length:=by
  rw [Nat.mod_add_mod,Nat.mod_add_mod];congr 1;omega
 rw [hmm]
 have hj:=Nat.mod_lt (i+k) h0
 generalize (i+k) % l.length=j at hj ⊢
 by_cases Hs:j+1<l.length
 ·rw [Nat.mod_eq_of_lt Hs]
  have:=h (l.length - 1 - (j+1)) (by omega)
  rw [Nat.mod_eq_of_lt (by omega),show l.length - 1 - (j+1)+1=l.length - 1 - j from by omega] at this
  exact this
 ·have:j+1=l.length:=by omega
  rw [this,Nat.mod_self]
  have:=h (l.length - 1) (by omega)
  rw [show l.length - 1+1=l.length from by omega,Nat.mod_self] at this
  rw [show l.length - 1 - j=0 from by omega]
  exact this
def Ri (g:Gr):Prop:=∃r:Int→Nat,∀i,i<g.es.length→r (tl g i)<r (hd g i)
theorem Dj {g:Gr} (hm:aX g=true):Ff g=true↔Ri g:=by
 constructor
 ·intro h
  refine ⟨fun v=>((Ba g.n.toNat (aO g) (aO g).length).getD v.toNat 0).toNat,fun i hi=> ?_⟩
  have h1:=GZ (En hm h) hi
  have h2:=vf (n:=g.n.toNat) (l:=aO g) (k:=(aO g).length) (y:=(tl g i).toNat)
  simp only;omega
 ·rintro ⟨r,hr⟩
  cases h:Ff g with
  |true=>rfl
  |false=>
   exfalso
   obtain ⟨y,hy,hn⟩:=C5 hm h
   have key:∀(p:Nat) (y:Nat),y<g.n.toNat→(y:Int)∉aO g→r y=p→False:=by
    intro p
    induction p using Nat.strongRecOn with
    |_ p ih=>
     intro y hy hn hp
     obtain ⟨t,i,hi,h1,rfl,h2⟩:=KN hm hy hn
     have htr:=cM hm hi
     have hlt:=hr i hi
     rw [h1,hp] at hlt
     have e:((tl g i).toNat:Int)=tl g i:=by omega
     exact ih (r (tl g i)) hlt (tl g i).toNat (by omega) (by rw [e];exact h2) (by rw [e])
   exact key _ y hy hn rfl
theorem I8 {g:Gr} (hm:aX g=true) (h:Ff g=true):kA g= []:=by
 have hall:=(cV.1 (C4 hm h)).2
 have hn:=bF hm
 rcases start_eq hm with ⟨h1,h2⟩|⟨a,ha,h1,h2,h3⟩
 ·have:kz g=([], -1):=by
   unfold kz;rw [h1];exact kB (.inl (by omega)) _
  simp only [kA,this]
  rw [if_pos (by omega)]
 ·exact absurd (hall a (er.2 (by omega))) h3
theorem Ht {g:Gr} (hm:aX g=true) (h:Ff g=false):0<(kA g).length∧OO g (kA g):=by
 obtain ⟨y,hy,Uk⟩:=C5 hm h
 have hn:=bF hm
 rcases start_eq hm with ⟨h1,h2⟩|⟨a,ha,h1,h2,h3⟩
 ·exfalso
  rcases gT (f:=fun n:Int=>decide (0<n)) (l:=cW g (aO g)) 0 with ⟨_,h4⟩|⟨k,h4,_⟩
  ·have h5:=(q8 hm hy).2 Uk
   have h6:=h4 ((cW g (aO g)).getD y 0) (by rw [List.getD_eq_getElem?_getD,lD hy];exact List.mem_of_getElem? (lD hy))
   rw [mN hy] at h6
   exact absurd h5 (of_decide_eq_false h6)
  ·omega
 ·obtain ⟨h4,h5,h6⟩:=vt hm g.n.toNat [] a ha h3 (fun p hp=>by simp at hp) yq
  have hw:kz g=lF g (cW g (aO g)) g.n.toNat [] a:=by unfold kz;rw [h1]
  rw [← hw] at h4 h5 h6
  obtain ⟨k,Bf,hk2,L4⟩:=eS h6
  have hc:kA g=me ((kz g).1.drop k).reverse:=by
   simp only [kA]
   rw [if_neg (by omega),Bf,Int.toNat_natCast]
  have hlen:((kz g).1.drop k).length=(kz g).1.length - k:=by simp
  have h0:0<((kz g).1.drop k).length:=by omega
  refine ⟨?_, ?_⟩
  ·rw [hc]
   simp only [me,List.length_append,List.length_drop,List.length_take,List.length_reverse]
   omega
  ·rw [hc]
   refine OO.IJ (fun p hp=> ?_) h0
   rw [hlen] at hp ⊢
   have h7:=h4 (k+p) (by omega)
   rw [rO (p:=p)]
   by_cases Hs:p+1<(kz g).1.length - k
   ·rw [Nat.mod_eq_of_lt Hs,rO]
    rw [qi (by omega)] at h7
    exact h7
   ·have:p+1=(kz g).1.length - k:=by omega
    rw [this,Nat.mod_self,rO,Nat.add_zero,L4]
    rw [show k+p+1=(kz g).1.length from by omega,rN] at h7
    exact h7
end Go.Ab
end
section
namespace Go.Ab
def nm (names:List Int) (v:Int):Int:=names.getD v.toNat 0
structure jU (g:Gr) (names order:List Int):Prop where
 may:aX g=true
 Lg:mZ names g.n=true
 ord:mZ order (g.es.length:Int)=true
section
variable {g:Gr} {names order:List Int} (h:jU g names order)
include h
theorem jU.len:(iG g names order).es.length=g.es.length:=by
 have:=(cV.1 h.ord).1
 simp only [iG,Ay];omega
theorem jU.jY {i:Nat} (hi:i<g.es.length):∃j,j<g.es.length∧order.getD i 0=(j:Int)∧(iG g names order).es.getD i (0,0)=(nm names (tl g j),nm names (hd g j)):=by
 have Ir:=(cV.1 h.ord).1
 have:=ve h.ord _ (jt (l:=order) (m:=i) (by omega))
 refine ⟨(order.getD i 0).toNat,by omega,by omega, ?_⟩
 simp only [iG,I7,nm,tl,hd]
 rw [List.getD_eq_getElem?_getD,List.getElem?_map,List.getElem?_range (by omega)]
 rfl
theorem jU.back {j:Nat} (hj:j<g.es.length):∃i,i<g.es.length∧order.getD i 0=(j:Int)∧(iG g names order).es.getD i (0,0)=(nm names (tl g j),nm names (hd g j)):=by
 obtain ⟨Ir,hall⟩:=cV.1 h.ord
 obtain ⟨i,hi,hil,he⟩:=eS (hall (j:Int) (er.2 (by omega)))
 obtain ⟨j',_,h2,h3⟩:=h.jY (i:=i) (by omega)
 have:j'=j:=by omega
 subst this
 exact ⟨i,by omega,he,h3⟩
theorem jU.inj {a b:Int} (ha:0≤a∧a<g.n) (hb:0≤b∧b<g.n) (e:nm names a=nm names b):a=b:=by
 have hnl:=(cV.1 h.Lg).1
 have:=lP h.Lg (i:=a.toNat) (j:=b.toNat) (by omega) (by omega) e
 omega
theorem jU.range {a:Int} (ha:0≤a∧a<g.n):0≤nm names a∧nm names a<g.n:=by
 have hnl:=(cV.1 h.Lg).1
 exact ve h.Lg _ (jt (by omega))
theorem jU.inv {a:Int} (ha:0≤a∧a<g.n):gw names (nm names a)=a:=by
 have hnl:=(cV.1 h.Lg).1
 obtain ⟨k,hk,cF,he⟩:=eS (jt (l:=names) (m:=a.toNat) (by omega))
 have h2:=lP h.Lg cF (j:=a.toNat) (by omega) he
 have h3:gw names (nm names a)=k:=hk
 omega
theorem jU.of {v:Int} (hv:0≤v∧v<g.n):∃a,(0≤a∧a<g.n)∧nm names a=v:=by
 obtain ⟨hnl,hall⟩:=cV.1 h.Lg
 obtain ⟨k,hk,cF,he⟩:=eS (hall v (er.2 (by omega)))
 exact ⟨k,by omega,he⟩
theorem jU.may':aX (iG g names order)=true:=by
 have hn:=bF h.may
 have hlen:=h.len
 have hall:(iG g names order).es.any (q6 (iG g names order))=false:=by
  rw [List.any_eq_false]
  intro e he
  obtain ⟨i,hi,rfl⟩:=List.getElem_of_mem he
  obtain ⟨j,hj,_,h3⟩:=h.jY (i:=i) (by omega)
  rw [List.getD_eq_getElem?_getD,List.getElem?_eq_getElem hi,Option.getD_some] at h3
  rw [h3]
  have h4:=h.range (cM h.may hj)
  have h5:=h.range (gA h.may hj)
  have e1:(iG g names order).n=g.n:=rfl
  simp only [q6,yh,e1,Bool.or_eq_true,decide_eq_true_eq]
  omega
 have e1:(iG g names order).n=g.n:=rfl
 simp only [aX,hall,e1,Bool.not_false,Bool.and_true,Bool.and_eq_true,decide_eq_true_eq]
 omega
omit h in
theorem rR {i j:Nat} (e:(iG g names order).es.getD i (0,0)=(nm names (tl g j),nm names (hd g j))):tl (iG g names order) i=nm names (tl g j)∧hd (iG g names order) i=nm names (hd g j):=⟨congrArg Prod.fst e,congrArg Prod.snd e⟩
theorem jU.loop:(0≤kC (iG g names order))↔0≤kC g:=by
 have key:∀g:Gr,(0≤kC g)↔∃i,i<g.es.length∧tl g i=hd g i:=by
  intro g
  have:=cT (fun e:Edge=>decide (e.1=e.2)) g.es
  rw [show (0≤kC g)↔g.es.any (fun e:Edge=>decide (e.1=e.2))=true from by rw [← this];simp [kC],List.any_eq_true]
  constructor
  ·rintro ⟨e,he,h2⟩
   obtain ⟨i,hi,rfl⟩:=List.getElem_of_mem he
   refine ⟨i,hi, ?_⟩
   simpa [tl,hd,List.getD_eq_getElem?_getD,List.getElem?_eq_getElem hi] using h2
  ·rintro ⟨i,hi,h2⟩
   refine ⟨_,List.getElem_mem hi, ?_⟩
   simpa [tl,hd,List.getD_eq_getElem?_getD,List.getElem?_eq_getElem hi] using h2
 rw [key,key,h.len]
 constructor
 ·rintro ⟨i,hi,e⟩
  obtain ⟨j,hj,_,h3⟩:=h.jY hi
  obtain ⟨e1,e2⟩:=rR h3
  exact ⟨j,hj,h.inj (cM h.may hj) (gA h.may hj) (by rw [← e1, ← e2,e])⟩
 ·rintro ⟨j,hj,e⟩
  obtain ⟨i,hi,_,h3⟩:=h.back hj
  obtain ⟨e1,e2⟩:=rR h3
  exact ⟨i,hi,by rw [e1,e2,e]⟩
omit h in
theorem xy (g:Gr):(0≤fQ g)↔∃i k,i<g.es.length∧k<g.es.length∧i≠k∧g.es.getD i (0,0)=g.es.getD k (0,0):=by
 have:=cT (o4 g) (List.range g.es.length)
 rw [show (0≤fQ g)↔(List.range g.es.length).any (o4 g)=true from by rw [← this];simp [fQ],List.any_eq_true]
 constructor
 ·rintro ⟨i,hi,h2⟩
  have hil:=List.mem_range.1 hi
  have h3:=of_decide_eq_true h2
  rw [List.mem_iff_getElem?] at h3
  obtain ⟨k,hk⟩:=h3
  rw [List.getElem?_take] at hk
  split at hk
  ·rename_i hki
   exact ⟨i,k,hil,by omega,by omega,by rw [List.getD_eq_getElem?_getD (i:=k),hk];rfl⟩
  ·cases hk
 ·rintro ⟨i,k,hi,hk,hne,e⟩
  have main:∀i k,k<i→i<g.es.length→g.es.getD i (0,0)=g.es.getD k (0,0)→o4 g i=true:=by
   intro i k hki hi e
   refine decide_eq_true ?_
   rw [e,List.mem_iff_getElem?]
   refine ⟨k, ?_⟩
   rw [List.getElem?_take,if_pos hki,List.getD_eq_getElem?_getD,List.getElem?_eq_getElem (by omega)];rfl
  rcases Nat.lt_or_gt_of_ne hne with hlt|hgt
  ·exact ⟨k,List.mem_range.2 hk,main k i hlt hk e.symm⟩
  ·exact ⟨i,List.mem_range.2 hi,main i k hgt hi e⟩
theorem jU.NY:(0≤fQ (iG g names order))↔0≤fQ g:=by
 have Ir:=(cV.1 h.ord).1
 rw [xy,xy,h.len]
 constructor
 ·rintro ⟨i,k,hi,hk,hne,e⟩
  obtain ⟨j,hj,ho,h3⟩:=h.jY hi
  obtain ⟨j',hj',ho',Iq⟩:=h.jY hk
  refine ⟨j,j',hj,hj',fun e'=> ?_, ?_⟩
  ·subst e'
   exact hne (lP h.ord (by omega) (by omega) (by rw [ho,ho']))
  ·rw [h3,Iq,Prod.mk.injEq] at e
   have e1:=h.inj (cM h.may hj) (cM h.may hj') e.1
   have e2:=h.inj (gA h.may hj) (gA h.may hj') e.2
   exact Prod.ext e1 e2
 ·rintro ⟨j,j',hj,hj',hne,e⟩
  obtain ⟨i,hi,ho,h3⟩:=h.back hj
  obtain ⟨k,hk,ho',Iq⟩:=h.back hj'
  refine ⟨i,k,hi,hk,fun e'=> ?_, ?_⟩
  ·subst e';omega
  ·have e1:tl g j=tl g j':=congrArg Prod.fst e
   have e2:hd g j=hd g j':=congrArg Prod.snd e
   rw [h3,Iq,e1,e2]
theorem jU.Rj:Ff (iG g names order)=Ff g:=by
 rw [Bool.eq_iff_iff,Dj h.may',Dj h.may]
 constructor
 ·rintro ⟨r,hr⟩
  refine ⟨fun v=>r (nm names v),fun j hj=> ?_⟩
  obtain ⟨i,hi,_,h3⟩:=h.back hj
  obtain ⟨e1,e2⟩:=rR h3
  have:=hr i (by rw [h.len];exact hi)
  rwa [e1,e2] at this
 ·rintro ⟨r,hr⟩
  refine ⟨fun v=>r (gw names v),fun i hi=> ?_⟩
  rw [h.len] at hi
  obtain ⟨j,hj,_,h3⟩:=h.jY hi
  obtain ⟨e1,e2⟩:=rR h3
  have:=hr j hj
  rw [e1,e2];simp only;rw [h.inv (cM h.may hj),h.inv (gA h.may hj)]
  exact this
omit h in
theorem jE {g:Gr} {y:Int} :y∈dN (·.2) g↔(0≤y∧y<g.n)∧∀i,i<g.es.length→hd g i≠y:=by
 simp only [dN,jO,List.mem_map,List.mem_filter,List.mem_range,decide_eq_true_eq]
 have he:∀x:Nat,x<g.n.toNat→(((eR (·.2) g).getD x []).length=0↔∀i,i<g.es.length→hd g i≠(x:Int)):=by
  intro x hx
  have e:(eR (·.2) g).getD x []=aZ (·.2) g.es g.es.length (x:Int):=by
   simp [eR,List.getD_eq_getElem?_getD,List.getElem?_range hx,mQ]
  rw [e,List.length_eq_zero_iff]
  simp only [aZ,List.map_eq_nil_iff,List.filter_eq_nil_iff,List.mem_range,decide_eq_true_eq]
  rfl
 constructor
 ·rintro ⟨x,⟨hx,h0⟩,rfl⟩
  refine ⟨by simp;omega,(he x hx).1 h0⟩
 ·rintro ⟨⟨h1,h2⟩,h3⟩
  have e:((y.toNat:Nat):Int)=y:=by omega
  exact ⟨y.toNat,⟨by omega,(he _ (by omega)).2 (by rw [e];exact h3)⟩,e⟩
omit h in
theorem vu {f:Edge→Int} {g:Gr} :(dN f g).Nodup:=by
 unfold dN jO
 refine List.Pairwise.map _ (fun a b h e=>h (Int.ofNat.inj e)) (List.Pairwise.filter _ List.nodup_range)
theorem jU.bare:(dN (·.2) (iG g names order)).length=(dN (·.2) g).length:=by
 have e1:(iG g names order).n=g.n:=rfl
 have h1:((dN (·.2) g).map (nm names)).length≤(dN (·.2) (iG g names order)).length:=by
  refine Nat.le_trans (count_le _ (dN (·.2) (iG g names order)) ?_ ?_) List.countP_le_length
  ·rw [List.nodup_iff_pairwise_ne]
   refine List.Pairwise.map _ (fun a b h=>h) ?_
   refine List.Pairwise.imp_of_mem ?_ vu
   intro a b ha hb hab e
   exact hab (h.inj (jE.1 ha).1 (jE.1 hb).1 e)
  ·intro v hv
   obtain ⟨y,hy,rfl⟩:=List.mem_map.1 hv
   obtain ⟨hy1,hy2⟩:=jE.1 hy
   refine jE.2 ⟨h.range hy1,fun i hi e=> ?_⟩
   rw [h.len] at hi
   obtain ⟨j,hj,_,h3⟩:=h.jY hi
   rw [(rR h3).2] at e
   exact hy2 j hj (h.inj (gA h.may hj) hy1 e)
 have h2:((dN (·.2) (iG g names order)).map (gw names)).length≤(dN (·.2) g).length:=by
  have hsplit:∀v∈dN (·.2) (iG g names order),∃a,(0≤a∧a<g.n)∧nm names a=v:=fun v hv=>h.of (jE.1 hv).1
  refine Nat.le_trans (count_le _ (dN (·.2) g) ?_ ?_) List.countP_le_length
  ·rw [List.nodup_iff_pairwise_ne]
   refine List.Pairwise.map _ (fun a b h=>h) ?_
   refine List.Pairwise.imp_of_mem ?_ vu
   intro a b ha hb hab e
   obtain ⟨a',JC,rfl⟩:=hsplit a ha
   obtain ⟨b',hb',rfl⟩:=hsplit b hb
   rw [h.inv JC,h.inv hb'] at e
   exact hab (by rw [e])
  ·intro v hv
   obtain ⟨y,hy,rfl⟩:=List.mem_map.1 hv
   obtain ⟨a,ha,rfl⟩:=hsplit y hy
   rw [h.inv ha]
   refine jE.2 ⟨ha,fun j hj e=> ?_⟩
   obtain ⟨i,hi,_,h3⟩:=h.back hj
   refine (jE.1 hy).2 i (by rw [h.len];exact hi) ?_
   rw [(rR h3).2,e]
 simp only [List.length_map] at h1 h2
 omega
theorem jU.kind:(dD (iG g names order)).1=(dD g).1:=by
 have hm:=h.may'
 have hc:(0<(kA (iG g names order)).length)↔0<(kA g).length:=by
  have key:∀g:Gr,aX g=true→((0<(kA g).length)↔Ff g=false):=by
   intro g hm
   cases ho:Ff g with
   |true=>rw [I8 hm ho];simp
   |false=>simp [(Ht hm ho).1]
  rw [key _ hm,key _ h.may,h.Rj]
 have h1:=h.loop
 have h2:=h.NY
 have h3:=h.bare
 simp only [dD,iM,hm,h.may]
 simp only [Bool.true_eq_false,if_false,h1,h2,hc,h3]
 split
 ·rfl
 split
 ·rfl
 split
 ·rfl
 split<;>rfl
end
end Go.Ab
end
section
namespace Go.Ab
open Go.Proofs
set_option maxRecDepth 10000
def Sn:Nat→List Edge→Int→Option (Int × Int)
 |_, [],_=>none
 |m,e::N,v=>if e.1=v then some ((m:Int),e.2) else Sn (m+1) N v
def VP (m:Nat) (N:List Edge) (t:It):It:=if 0≤t.1 then t else match Sn m N t.2.1 with
 |some (i,h)=>(i,t.2.1,h)
 |none=>t
structure Sq (g:Gr) (p:Pl):Prop where
 run:dF g p
 n:(Hl g p).n≤64
 es:(Hl g p).es.length≤128
variable {g:Gr} {p:Pl}
end Go.Ab
end
section
namespace Go.Ab
open Go.Proofs
set_option maxRecDepth 10000
variable {g:Gr} {p:Pl}
end Go.Ab
end
section
namespace Go.Ab
open Go.Proofs
set_option maxRecDepth 10000
variable {g:Gr} {p:Pl}
end Go.Ab
end
section
namespace Go.Ab
open Go.Proofs
set_option maxRecDepth 10000
def gq (l:List It):List It:=l.filter fun t=>decide (0≤t.1)
theorem jV {a b:List It} :gq (a++b)=gq a++gq b:=by simp [gq]
theorem fM {l:List It} {t:It} :t∈gq l↔t∈l∧0≤t.1:=by simp [gq]
theorem tG {x:Int} {l:List It} (h:gK x l):gK x (gq l):=fun t ht=>h t (fM.1 ht).1
def wm (x:Int) (l:List It):Prop:=∀t∈l,t.2.2=x
theorem xz {g:Gr} {x:Int} {o:List Int} (ho:∀i∈o,0≤i):gq (bz g x o)=o.map (qv g x):=by
 unfold bz
 split
 ·rename_i h;subst h;rfl
 ·refine List.filter_eq_self.2 fun t ht=> ?_
  obtain ⟨i,hi,rfl⟩:=List.mem_map.1 ht
  exact decide_eq_true (ho i hi)
theorem xA {x:Int} :∀ {X Y c d:List It},wm x X→wm x Y→gK x c→gK x d→X++c=Y++d→X=Y∧c=d
 | [], [],c,d,_,_,_,_,e=>⟨rfl,e⟩
 | [],u::Y,c,d,_,hY,hc,_,e=>by
   simp only [List.nil_append] at e
   exact absurd (hY u (by simp)) (hc u (by rw [e];simp))
 |t::X, [],c,d,hX,_,_,hd,e=>by
  simp only [List.nil_append] at e
  exact absurd (hX t (by simp)) (hd t (by rw [← e];simp))
 |t::X,u::Y,c,d,hX,hY,hc,hd,e=>by
  simp only [List.cons_append,List.cons.injEq] at e
  obtain ⟨e1,e2⟩:=xA (fun s hs=>hX s (by simp [hs])) (fun s hs=>hY s (by simp [hs])) hc hd e.2
  exact ⟨by rw [e.1,e1],e2⟩
theorem Az {x:Int} :∀ {a b X Y c d:List It},gK x a→gK x b→wm x X→wm x Y→gK x c→gK x d→X≠ []→Y≠ []→a++X++c=b++Y++d→a=b∧X=Y∧c=d
 |t::a, [],X,u::Y,c,d,ha,_,_,hY,_,_,_,_,e=>by
  simp only [List.cons_append,List.nil_append,List.cons.injEq] at e
  exact absurd (by rw [e.1];exact hY u (by simp)) (ha t (by simp))
 | [],t::b,u::X,Y,c,d,_,hb,hX,_,_,_,_,_,e=>by
   simp only [List.cons_append,List.nil_append,List.cons.injEq] at e
   exact absurd (by rw [← e.1];exact hX u (by simp)) (hb t (by simp))
 |t::a,u::b,X,Y,c,d,ha,hb,hX,hY,hc,hd,nX,nY,e=>by
  simp only [List.cons_append,List.cons.injEq] at e
  obtain ⟨e1,e2,e3⟩:=Az (fun s hs=>ha s (by simp [hs])) (fun s hs=>hb s (by simp [hs])) hX hY hc hd nX nY e.2
  exact ⟨by rw [e.1,e1],e2,e3⟩
 | [], [],X,Y,c,d,_,_,hX,hY,hc,hd,_,_,e=>by
   refine ⟨rfl, ?_⟩
   simp only [List.nil_append] at e
   exact xA hX hY hc hd e
 | [],_::_, [],_,_,_,_,_,_,_,_,_,h,_,_=>absurd rfl h
 |_::_, [],_, [],_,_,_,_,_,_,_,_,_,h,_=>absurd rfl h
theorem Hu {g:Gr} (hm:aX g=true) {f:Fr} (hi:iO g f) {x:Int} (hR:aK g f x=true) (hn:bM g x≠0):
 ∃a X c,gq f.row=a++X++c∧gK x a∧gK x c∧wm x X∧X.length=bM g x∧∀o,gq (aN g f x o).2.row=a++gq (bz g x o)++c:=by
 obtain ⟨A,X,C,hr,hA,hC,hX,cX⟩:=cm hm hi hR hn
 have hx:=(aT hR).1
 have hmem:∀t∈X,t∈f.row:=fun t ht=>by rw [hr];simp [ht]
 have hiff:∀t∈X,(0≤t.1↔t.2.2=x):=fun t ht=>by
  have h1:=(hi.it t (hmem t ht)).head hm
  have h2:=hX.al t ht
  omega
 refine ⟨gq A,gq X,gq C,by rw [hr,jV,jV],tG hA,tG hC,fun t ht=> ?_, ?_,fun o=> ?_⟩
 ·obtain ⟨h1,h2⟩:=fM.1 ht
  exact (hiff t h1).1 h2
 ·rw [← cX,gq, ← List.countP_eq_length_filter]
  refine List.countP_congr fun t ht=> ?_
  simp only [mA,decide_eq_true_eq]
  exact hiff t ht
 ·rw [iw o hr hA hC hX]
  simp only [jV]
theorem Dk {g:Gr} (hm:aX g=true) {f:Fr} (hi:iO g f) {x:Int} (hR:aK g f x=true) (hn:bM g x≠0) {a X c:List It} (e:gq f.row=a++X++c) (ha:gK x a) (hc:gK x c) (hX:wm x X) (nX:X≠ []) (o:List Int):
 gq (aN g f x o).2.row=a++gq (bz g x o)++c:=by
 obtain ⟨b,Y,d,e',hb,hd,hY,lY,hs⟩:=Hu hm hi hR hn
 have nY:Y≠ []:=fun h=>hn (by rw [← lY,h];rfl)
 obtain ⟨e1,_,e3⟩:=Az hb ha hY hX hd hc nY nX (e'.symm.trans e)
 rw [hs o,e1,e3]
theorem AA {g:Gr} (hm:aX g=true) {f:Fr} (hi:iO g f) {x:Int} (h0:0≤x) (h1:x<g.n) (hp:x∉f.pl) {a X c:List It} (e:gq f.row=a++X++c) (ha:gK x a) (hc:gK x c) (hX:wm x X) (nX:X≠ []) (hl:X.length=bM g x):aK g f x=true:=by
 have hmem:∀j,j<f.row.length→B4 g (f.row.getD j (0,0,0)):=fun j hj=>hi.it _ (aD hj)
 have DR:f.row.countP (mA x)=X.length:=by
  have h2:f.row.countP (mA x)=(gq f.row).countP (mA x):=by
   rw [gq,List.countP_filter]
   refine List.countP_congr fun t ht=> ?_
   have:=(hi.it t ht).head hm
   simp only [mA,Bool.and_eq_true,decide_eq_true_eq]
   omega
  have c1:a.countP (mA x)=0:=List.countP_eq_zero.2 fun t ht=>by simp [mA,ha t ht]
  have c2:c.countP (mA x)=0:=List.countP_eq_zero.2 fun t ht=>by simp [mA,hc t ht]
  have c3:X.countP (mA x)=X.length:=List.countP_eq_length.2 fun t ht=>by simp [mA,hX t ht]
  rw [h2,e,List.countP_append,List.countP_append,c1,c2,c3]
  omega
 rw [← qw hm hi,gY,if_neg (by rintro (h|h|h);omega;omega;exact hp h),ig h0 h1,Bool.and_eq_true,decide_eq_true_eq]
 have hN:(aZ (fun e=>e.2) g.es g.es.length x).length=bM g x:=rfl
 rw [hN]
 refine ⟨?_, ?_⟩
 ·unfold bq
  rw [kJ,lR (Nat.le_refl _),List.take_length,DR,hl]
 ·rw [Bool.or_eq_true];right
  rcases fH (row:=f.row) (x:=x) f.row.length with ⟨hs,hno⟩|⟨p,q,n,hs,hab,vQ,hc0,zf,hpx,Rk,hlo,hhi⟩
  ·have hs':bq f.row x=(-1,0,0):=hs
   rw [hs'];simp [sM]
  ·have hs':bq f.row x=((p:Int),(q:Int),(n:Int)):=hs
   rw [hs']
   simp only [Int.toNat_natCast,sM,Bool.not_eq_true']
   rw [← Bool.not_eq_true,xm vQ]
   rintro ⟨j,h2,h3,h4⟩
   simp only [lQ,Bool.and_eq_true,decide_eq_true_eq] at h4
   have hja:p<j:=by
    refine Nat.lt_of_le_of_ne h2 fun e=> ?_
    subst e;exact h4.1 hpx
   have hjb:j<q - 1:=by
    refine Nat.lt_of_le_of_ne (by omega) fun e=> ?_
    subst e;exact h4.1 Rk
   have hsub:=((vm (i:=j+1) (j:=q - 1) (vm (i:=p+1) (j:=j) (vm (i:=0) (j:=p) (List.nil_sublist _) (by omega) (by omega)) (by omega) (by omega)) (by omega) (by omega)).trans (List.take_sublist _ f.row)).filter fun t=>decide (0≤t.1)
   have hp1:=(hmem p (by omega)).head hm
   have hj1:=(hmem j (by omega)).head hm
   have hq1:=(hmem (q - 1) (by omega)).head hm
   generalize f.row.getD p (0,0,0)=s1 at hsub hp1 hpx
   generalize f.row.getD j (0,0,0)=s2 at hsub hj1 h4
   generalize f.row.getD (q - 1) (0,0,0)=s3 at hsub hq1 Rk
   have hf:([]++ [s1]++ [s2]++ [s3]).filter (fun t=>decide (0≤t.1))= [s1,s2,s3]:=List.filter_eq_self.2 fun t ht=>by
    simp only [List.nil_append,List.cons_append,List.mem_cons,List.not_mem_nil,or_false] at ht
    rcases ht with rfl|rfl|rfl
    ·exact decide_eq_true (hp1.1.2 (by omega))
    ·exact decide_eq_true (hj1.1.2 h4.2)
    ·exact decide_eq_true (hq1.1.2 (by omega))
   rw [hf] at hsub
   have hsub: [s1,s2,s3].Sublist (a++(X++c)):=by rw [← List.append_assoc, ← e];exact hsub
   rw [List.sublist_append_iff] at hsub
   obtain ⟨l1,l',el,k1,k'⟩:=hsub
   rw [List.sublist_append_iff] at k'
   obtain ⟨l2,l3,rfl,k2,k3⟩:=k'
   match l1,el,k1 with
   |t::l1,el,k1=>
    simp only [List.cons_append,List.cons.injEq] at el
    exact ha t (k1.subset (by simp)) (by rw [← el.1];exact hpx)
   | [],el,_=>
     match l2,el,k2 with
     | [],el,_=>
       simp only [List.nil_append] at el
       exact hc s1 (k3.subset (by rw [← el];simp)) hpx
     | [t],el,_=>
       simp only [List.nil_append,List.cons_append,List.cons.injEq] at el
       exact hc s3 (k3.subset (by rw [← el.2];simp)) Rk
     |t::u::l2,el,k2=>
      simp only [List.nil_append,List.cons_append,List.cons.injEq] at el
      exact h4.1 (by rw [el.2.1];exact hX u (k2.subset (by simp)))
end Go.Ab
end
section
namespace Go.Ab
open Go.Proofs
set_option maxRecDepth 10000
def NZ (gone:List Int) (i:Nat):Bool:= !decide ((i:Int)∈gone)
def LJ (gone:List Int) (k:Nat):List Nat:=(List.range k).filter (NZ gone)
def Ul (gone:List Int) (k:Nat):Nat:=(LJ gone k).length
def Rl (gone:List Int) (es:List Edge) (k:Nat):List Edge:=(LJ gone k).map fun i=>es.getD i (0,0)
def Um (g:Gr) (gone:List Int):Gr:=⟨g.n,Rl gone g.es g.es.length⟩
def Sr (gone:List Int) (i:Int):Int:=if i∈gone then -1 else (Ul gone i.toNat:Int)
def Rm (gone:List Int) (l:List Int):List Int:=(l.filter fun i=>decide (i∉gone)).map (Sr gone)
def Un (p:Pl) (gone:List Int):Pl:=⟨p.ord,p.outs.map (Rm gone)⟩
variable {g:Gr} {p:Pl} {gone:List Int}
def Uo (gone:List Int) (t:It):It:=(Sr gone t.1,t.2.1,t.2.2)
def Up (gone:List Int) (l:List It):List It:=(l.filter fun t=>decide (t.1∉gone)).map (Uo gone)
theorem EK (hr:dF g p):bM g (bJ p 0)=0:=by
 have hm:=bW hr.1
 have hn:=bF hm
 refine Decidable.byContradiction fun hnz=> ?_
 obtain ⟨A,X,C,hrw,_,_,hX,_⟩:=cm hm (C8 g).toiO (hr.2.2 0 (by omega)) hnz
 obtain ⟨q,X0,e1,_⟩:=hX.fst
 rw [e1] at hrw
 simp at hrw
end Go.Ab
end
section
namespace Go.Ab
open Go.Proofs
set_option maxRecDepth 10000
theorem Dl {g:Gr} (hm:aX g=true) {f:Fr} (hi:iO g f) {x:Int} (hR:aK g f x=true) (hn:bM g x≠0) (o:List Int):
 ∃a c,gq f.row=a++gq (aN g f x o).1.1++c∧gK x a∧gK x c∧wm x (gq (aN g f x o).1.1)∧(gq (aN g f x o).1.1).length=bM g x∧gq (aN g f x o).2.row=a++gq (bz g x o)++c:=by
 obtain ⟨A,X,C,hr,hA,hC,hX,hc⟩:=cm hm hi hR hn
 have hx:=(aT hR).1
 have hmem:∀t∈X,t∈f.row:=fun t ht=>by rw [hr];simp [ht]
 have hiff:∀t∈X,(0≤t.1↔t.2.2=x):=fun t ht=>by
  have h1:=(hi.it t (hmem t ht)).head hm
  have h2:=hX.al t ht
  constructor
  ·intro h;rcases h2 with h2|h2
   ·exact h2
   ·exact absurd h2 (h1.1.1 h)
  ·intro h;exact h1.1.2 (by omega)
 rw [iw o hr hA hC hX]
 refine ⟨gq A,gq C,by rw [hr,jV,jV],tG hA,tG hC,fun t ht=> ?_, ?_,by simp only [jV]⟩
 ·obtain ⟨h1,h2⟩:=fM.1 ht
  exact (hiff t h1).1 h2
 ·rw [← hc,gq, ← List.countP_eq_length_filter]
  refine List.countP_congr fun t ht=> ?_
  simp only [mA,decide_eq_true_eq]
  exact hiff t ht
def jL (g:Gr) (p:Pl) (x:Int):List Int:=(gq ((iq g p g.n.toNat).getD x.toNat [])).map (·.1)
def pF (g:Gr) (p:Pl) (f:Fr) (x:Int):List Int:=(gq (aN g f x (kU p x)).1.1).map (·.1)
def vv (g:Gr) (p:Pl):Nat→Fr→Prop
 |0,f=>(f.pl.length:Int)=g.n
 |m+1,f=>∃x,aK g f x=true∧pF g p f x=jL g p x∧vv g p m (xw g p f x)
theorem vA {g:Gr} {p:Pl} :∀ {m:Nat} {f f':Fr},f.row=f'.row→f.pl.Perm f'.pl→vv g p m f→vv g p m f'
 |0,f,f',_,hp,h=>by
  have h:(f.pl.length:Int)=g.n:=h
  show (f'.pl.length:Int)=g.n
  rw [← hp.length_eq];exact h
 |m+1,f,f',hr,hp,⟨x,h1,h3,h2⟩=>by
  refine ⟨x,by rw [← Aq hr hp];exact h1, ?_,vA ?_ ?_ h2⟩
  ·simp only [pF,aN,hr] at h3 ⊢;exact h3
  ·simp only [xw,aN,hr]
  ·exact hp.append_right _
theorem xC {g:Gr} (hc:(dD g).1=0) {p:Pl} (hp:cH g p):∀ {m:Nat} {f:Fr},An g f→(f.pl.length:Int)+(m+1:Nat)=g.n→vv g p (m+1) f→∀ {x:Int},aK g f x=true→pF g p f x=jL g p x∧vv g p m (xw g p f x)
 |m,f,hi,hl,⟨y,xo,OP,hcan⟩,x,hR=>by
  have hm:=bW hc
  by_cases hxy:x=y
  ·subst hxy;exact ⟨OP,hcan⟩
  have py:=eu hp (aT xo).1 (aT xo).2.1
  have px:=eu hp (aT hR).1 (aT hR).2.1
  have i2:=kM hm hi xo py
  match m,hl,hcan with
  |0,hl,hcan=>
   exfalso
   have h1:=rL i2.toiO (by show ((f.pl++ [y]).length:Int)=g.n;simp;omega) (x:=x) ⟨(aT hR).1,(aT hR).2.1⟩
   have h2:x∈f.pl++ [y]:=h1
   simp [(aT hR).2.2,hxy] at h2
  |m+1,hl,hcan=>
   obtain ⟨h4,h5,h6,h7,h8⟩:=EC hc hi hxy hR xo px py
   obtain ⟨h9,h3⟩:=xC hc hp i2 (by show (((f.pl++ [y]).length:Nat):Int)+_=_;simp;omega) hcan h5
   refine ⟨?_,y,h4, ?_,vA h6.symm ?_ h3⟩
   ·unfold pF at h9 ⊢;rw [h7];exact h9
   ·unfold pF at OP ⊢;rw [h8] at OP;exact OP
   show (f.pl++ [y]++ [x]).Perm (f.pl++ [x]++ [y])
   rw [List.append_assoc,List.append_assoc]
   exact List.Perm.append_left _ (List.Perm.swap ..)
theorem Dm {g:Gr} (hc:(dD g).1=0) {p:Pl} (hp:cH g p):∀ {m:Nat} {f:Fr},An g f→vv g p m f→∀ {i:Nat},i<g.es.length→tl g i∈f.pl→hd g i∉f.pl→∃t∈f.row,t.1=(i:Int)
 |0,f,hi,h,i,hil,_,hh=>by
  have hr:=gA (bW hc) hil
  exact absurd (rL hi.toiO h (x:=hd g i) hr) hh
 |m+1,f,hi,⟨x,hR,_,h⟩,i,hil,ht,hh=>by
  have hm:=bW hc
  have px:=eu hp (aT hR).1 (aT hR).2.1
  by_cases hx:hd g i=x
  ·obtain ⟨t,h1,h2,_⟩:=B5 hm hi hR hil hx
   exact ⟨t,h1,h2⟩
  ·obtain ⟨t,h1,h2⟩:=Dm hc hp (kM hm hi hR px) h hil (List.mem_append.2 (.inl ht)) (fun h1=>by
    rcases List.mem_append.1 h1 with h1|h1
    ·exact hh h1
    ·exact hx (by simpa using h1))
   obtain ⟨A,X,C,hr,_,_,_,hs⟩:=vl hm hi.toiO hR
   rw [hs] at h1
   simp only [List.mem_append] at h1
   rcases h1 with (h1|h1)|h1
   ·exact ⟨t,by rw [hr];simp [h1],h2⟩
   ·rcases kL (fun i hi=>px.mem_iff.1 hi) h1 with ⟨h3,_⟩|⟨k,h3,h4,h5,_,h6,_⟩
    ·omega
    ·have:k=i:=by omega
     subst this
     exact absurd (h6 ▸ ht) (aT hR).2.2
   ·exact ⟨t,by rw [hr];simp [h1],h2⟩
def kX (g:Gr) (e:Int):Int:=(g.es.getD e.toNat (0,0)).1
def mB (g:Gr) (e:Int):Int:=(g.es.getD e.toNat (0,0)).2
def xD (g:Gr) (x:Int):Prop:=0≤x∧x<g.n
instance {g:Gr} {x:Int} :Decidable (xD g x):=inferInstanceAs (Decidable (0≤x∧x<g.n))
def vB (g:Gr) (p:Pl) (k:Nat) (W D:List Int):Prop:=∃f,An g f∧f.pl=D∧W=(gq f.row).map (·.1)∧vv g p k f∧(D.length:Int)+k=g.n∧bJ p 0∈D
def Ro (g:Gr) (p:Pl) (x:Int):Nat:=((Ba g.n.toNat p.ord p.ord.length).getD x.toNat 0).toNat
def AB (g:Gr) (p:Pl):PS:=
 {m:=g.es.length,src:=bJ p 0,NM:=bJ p (g.n.toNat - 1),tl:=kX g,hd:=mB g,ins:=fun x=>if xD g x then jL g p x else [],outs:=fun x=>if xD g x then kU p x else [],Rb:=Ro g p,Row:=vB g p,k0:=g.n.toNat - 1}
theorem Cd {g:Gr} {p:Pl} {x:Int} (h:xD g x):(AB g p).ins x=jL g p x:=if_pos h
theorem I9 {g:Gr} {p:Pl} {x:Int} (h:¬xD g x):(AB g p).ins x= []:=if_neg h
theorem Ja {g:Gr} {p:Pl} {x:Int} (h:xD g x):(AB g p).outs x=kU p x:=if_pos h
theorem dy {f:Edge→Int} {es:List Edge} {x e:Int} :e∈aZ f es es.length x↔(0≤e∧e<es.length)∧f (es.getD e.toNat (0,0))=x:=by
 refine ⟨gZ,fun ⟨h1,h2⟩=> ?_⟩
 simp only [aZ,List.mem_map,List.mem_filter,List.mem_range,decide_eq_true_eq]
 exact ⟨e.toNat,⟨by omega,h2⟩,by simp;omega⟩
section
variable {g:Gr} {p:Pl}
theorem yU (hm:aX g=true) {f:Fr} (hi:iO g f) {t:It} (ht:t∈gq f.row):(0≤t.1∧t.1<g.es.length)∧t.2.1=kX g t.1∧t.2.2=mB g t.1:=by
 obtain ⟨h1,h2⟩:=fM.1 ht
 rcases hi.it t h1 with h3|h3
 ·omega
 ·exact ⟨⟨h3.1,h3.2.1⟩,h3.2.2.1,h3.2.2.2⟩
theorem JV {f:Fr} (hi:An g f):((gq f.row).map (·.1)).Nodup:=by
 refine List.pairwise_map.2 ?_
 have:=hi.once.filter (fun t:It=>decide (0≤t.1))
 refine List.Pairwise.imp_of_mem (fun {s t} hs ht h1=>h1 (fM.1 hs).2) this
theorem Jb (hm:aX g=true) {f:Fr} (hi:An g f) {x:Int} (hR:aK g f x=true):(pF g p f x).Nodup∧∀e,e∈pF g p f x↔(0≤e∧e<g.es.length)∧mB g e=x:=by
 by_cases hn:bM g x=0
 ·have hno:=ij hm hi.toiO (aT hR).1 hn
  have e0:pF g p f x= []:=by unfold pF;rw [jg _ hno];rfl
  rw [e0]
  refine ⟨List.nodup_nil,fun e=>⟨fun h=>by (cases h),fun ⟨h1,h2⟩=> ?_⟩⟩
  have:=dy.2 ⟨h1,h2⟩
  have h3:aZ (·.2) g.es g.es.length x= []:=List.eq_nil_of_length_eq_zero hn
  rw [h3] at this;cases this
 ·obtain ⟨a,c,e1,ha,hc,hX,hl,_⟩:=Dl hm hi.toiO hR hn (kU p x)
  have fA:=JV hi
  have hmem:∀t∈gq (aN g f x (kU p x)).1.1,t∈gq f.row:=fun t ht=>by rw [e1];simp [ht]
  rw [e1,List.map_append,List.map_append,List.nodup_append] at fA
  have MY:(pF g p f x).Nodup:=(List.nodup_append.1 fA.1).2.1
  have hsub:∀e∈pF g p f x,e∈aZ (·.2) g.es g.es.length x:=fun e he=>by
   obtain ⟨t,ht,rfl⟩:=List.mem_map.1 he
   obtain ⟨h1,_,h3⟩:=yU hm hi.toiO (hmem t ht)
   exact dy.2 ⟨h1,by rw [← hX t ht,h3];rfl⟩
  have hlen:(aZ (·.2) g.es g.es.length x).length=(pF g p f x).length:=by
   unfold pF;rw [List.length_map,hl];rfl
  exact ⟨MY,fun e=>⟨fun he=>dy.1 (hsub e he),fun he=>B3 MY hsub hlen e (dy.2 he)⟩⟩
theorem Dn (h:dF g p) {k:Nat} (hk:k<g.n.toNat):jL g p (bJ p k)=pF g p (fK g p k) (bJ p k):=by
 unfold jL
 rw [yQ h.2.1 (Nat.le_refl _) hk];rfl
theorem nh (h:dF g p) {x:Int} (hx:xD g x):(jL g p x).Nodup∧∀e,e∈jL g p x↔(0≤e∧e<g.es.length)∧mB g e=x:=by
 obtain ⟨k,hk,rfl⟩:=qy h.2.1 hx.1 hx.2
 have hm:=bW h.1
 obtain ⟨hi,_,_⟩:=lT hm h.2.1 (k:=k) (by omega) fun j hj=>h.2.2 j (by omega)
 rw [Dn h hk]
 exact Jb hm hi (h.2.2 k hk)
theorem AD (h:dF g p) {x:Int} (hx:xD g x):(jL g p x).length=bM g x:=by
 obtain ⟨h1,h2⟩:=nh h hx
 refine Nat.le_antisymm ?_ ?_
 ·exact nP h1 fun e he=>dy.2 ((h2 e).1 he)
 ·exact nP gj fun e he=>(h2 e).2 (dy.1 he)
theorem vB.nd {k:Nat} {W D:List Int} (h:vB g p k W D):W.Nodup:=by
 obtain ⟨f,hi,_,rfl,_⟩:=h;exact JV hi
theorem vB.mem (h:dF g p) {k:Nat} {W D:List Int} (hr:vB g p k W D) (e:Int):e∈W↔(0≤e∧e<g.es.length)∧kX g e∈D∧mB g e∉D:=by
 have hm:=bW h.1
 obtain ⟨f,hi,rfl,rfl,hc,_⟩:=hr
 constructor
 ·intro he
  obtain ⟨t,ht,rfl⟩:=List.mem_map.1 he
  obtain ⟨h1,h2,h3⟩:=yU hm hi.toiO ht
  obtain ⟨h4,h5⟩:=fM.1 ht
  exact ⟨h1,h2 ▸ hi.tail t h4 h5,h3 ▸ hi.head t h4 h5⟩
 ·rintro ⟨h1,h2,h3⟩
  obtain ⟨t,h4,h5⟩:=Dm h.1 h.2.1 hi hc (i:=e.toNat) (by omega) h2 h3
  exact List.mem_map.2 ⟨t,fM.2 ⟨h4,by omega⟩,by omega⟩
theorem vB.next (h:dF g p) {k:Nat} {W D:List Int} (hr:vB g p (k+1) W D):∃x A C,W=A++(AB g p).ins x++C∧(AB g p).ins x≠ []:=by
 have hm:=bW h.1
 obtain ⟨f,hi,rfl,rfl,⟨x,hR,hg,_⟩,_,hs⟩:=hr
 obtain ⟨x0,x1,x2⟩:=aT hR
 have hx:xD g x:=⟨x0,x1⟩
 have hn:bM g x≠0:=fun h0=>by
  have:=tC h.1 (x:=x) (y:=bJ p 0) hx (hi.uV _ hs) h0 (EK h)
  exact x2 (this ▸ hs)
 obtain ⟨a,c,e1,_,_,_,hl,_⟩:=Dl hm hi.toiO hR hn (kU p x)
 refine ⟨x,a.map (·.1),c.map (·.1), ?_, ?_⟩
 ·rw [Cd hx, ← hg,e1,List.map_append,List.map_append];rfl
 ·rw [Cd hx]
  intro h0
  have:=AD h hx
  rw [h0] at this
  exact hn this.symm
theorem vB.step (h:dF g p) {k:Nat} {W D A C:List Int} {x:Int} (hr:vB g p k W D) (hW:W=A++(AB g p).ins x++C) (hI:(AB g p).ins x≠ []):∃k',k=k'+1∧vB g p k' (A++(AB g p).outs x++C) (D++ [x]):=by
 have hm:=bW h.1
 have hx:xD g x:=Decidable.byContradiction fun h0=>hI (I9 h0)
 have fA:=hr.nd
 have hmem:=vB.mem h hr
 rw [Cd hx] at hW hI
 rw [Ja hx]
 obtain ⟨i1,i2⟩:=nh h hx
 obtain ⟨e0,u0,Gq⟩:=yT hI
 have Ss:x∉D:=by
  have h1:=(i2 e0).1 (by rw [Gq];simp)
  have h2:=(hmem e0).1 (by rw [hW,Gq];simp)
  rw [h1.2] at h2;exact h2.2.2
 obtain ⟨f,hi,rfl,Uq,hc,hD,hs⟩:=hr
 rw [Uq] at hW fA
 obtain ⟨l1,c,e1,e2,e3⟩:=List.map_eq_append_iff.1 hW
 obtain ⟨a,X,e4,e5,e6⟩:=List.map_eq_append_iff.1 e2
 have hrow:gq f.row=a++X++c:=by rw [e1,e4]
 rw [hrow,List.map_append,List.map_append,e5,e6,e3] at fA
 have hit:∀t∈a++X++c,(0≤t.1∧t.1<g.es.length)∧t.2.1=kX g t.1∧t.2.2=mB g t.1:=fun t ht=>yU hm hi.toiO (by rw [hrow];exact ht)
 have hX:wm x X:=fun t ht=>by
  have h1:t.1∈jL g p x:=by rw [← e6];exact List.mem_map_of_mem ht
  rw [(hit t (by simp [ht])).2.2,((i2 _).1 h1).2]
 have hin:∀t∈a++X++c,t.2.2=x→t.1∈jL g p x:=fun t ht e=>by
  obtain ⟨h1,_,h3⟩:=hit t ht
  exact (i2 _).2 ⟨h1,by rw [← h3,e]⟩
 have ha:gK x a:=fun t ht e=>by
  have h1:=hin t (by simp [ht]) e
  have h2:t.1∈A:=by rw [← e5];exact List.mem_map_of_mem ht
  exact (List.nodup_append.1 (List.nodup_append.1 fA).1).2.2 _ h2 _ h1 rfl
 have St:gK x c:=fun t ht e=>by
  have h1:=hin t (by simp [ht]) e
  have h2:t.1∈C:=by rw [← e3];exact List.mem_map_of_mem ht
  exact (List.nodup_append.1 fA).2.2 _ (List.mem_append.2 (.inr h1)) _ h2 rfl
 have NJ:X.length=bM g x:=by rw [← AD h hx, ← e6,List.length_map]
 have nX:X≠ []:=fun h0=>hI (by rw [← e6,h0];rfl)
 have hR:=AA hm hi.toiO hx.1 hx.2 Ss hrow ha St hX nX NJ
 have hn:bM g x≠0:=fun h0=>nX (List.eq_nil_of_length_eq_zero (NJ.trans h0))
 have px:=eu h.2.1 hx.1 hx.2
 cases k with
 |zero=>exact absurd (rL hi.toiO (by omega) hx) Ss
 |succ k=>
  refine ⟨k,rfl,xw g p f x,kM hm hi hR px,rfl, ?_,(xC h.1 h.2.1 hi (by omega) hc hR).2, ?_,List.mem_append.2 (.inl hs)⟩
  ·have:=Dk hm hi.toiO hR hn hrow ha St hX nX (kU p x)
   show _=(gq (aN g f x (kU p x)).2.row).map (·.1)
   rw [this,List.map_append,List.map_append,e5,e3,xz (fun i hi=>by
    have:=dy.1 (px.mem_iff.1 hi);exact this.1.1),List.map_map]
   have e7:((fun t:It=>t.1) ∘ qv g x)=id:=rfl
   rw [e7,List.map_id]
  ·show (((f.pl++ [x]).length:Nat):Int)+_=_
   rw [List.length_append,List.length_singleton];omega
end
end Go.Ab
end
section
namespace Go.Ab
open Go.Proofs
set_option maxRecDepth 10000
set_option linter.unusedSectionVars false
def dh (d:Dr) (x:Int):Pt:=d.pts.getD x.toNat (0,0)
def ee (d:Dr) (e:Int):List Pt:=d.ls.getD e.toNat []
structure s5 (g:Gr) (d:Dr):Prop where
 s9:(dD g).1=0
 np:(d.pts.length:Int)=g.n
 nl:d.ls.length=g.es.length
 Lh:∀q∈d.pts,bn q
 len:∀l∈d.ls,2≤l.length∧l.length≤8
 kT:∀l∈d.ls,∀q∈l,bn q
 fst:∀i,i<g.es.length→(d.ls.getD i []).getD 0 (0,0)=dh d (tl g i)
 IZ:∀i,i<g.es.length→(d.ls.getD i []).getD ((d.ls.getD i []).length - 1) (0,0)=dh d (hd g i)
 BP:∀i,i<g.es.length→∀k,k+1<(d.ls.getD i []).length→((d.ls.getD i []).getD k (0,0)).2<((d.ls.getD i []).getD (k+1) (0,0)).2
 alone:∀x z:Nat,x<z→z<d.pts.length→d.pts.getD x (0,0)≠d.pts.getD z (0,0)
 free:∀i x:Nat,i<g.es.length→x<d.pts.length→(x:Int)≠tl g i→(x:Int)≠hd g i→JN (d.ls.getD i []) (d.pts.getD x (0,0))=false
 apart:∀i k:Nat,i<g.es.length→k<i→∀a∈eD (d.ls.getD i []),∀b∈eD (d.ls.getD k []),fG (eC g d i k) a b=false
theorem kP {n:Nat} {f:Nat→Bool} (h:¬0≤bG n f) {i:Nat} (hi:i<n):f i=true:=by
 refine Decidable.byContradiction fun hf=>h ?_
 have h1:=cT (fun i=> !f i) (List.range n)
 have h2:(List.range n).any (fun i=> !f i)=true:=List.any_eq_true.2 ⟨i,List.mem_range.2 hi,by simp [hf]⟩
 rw [h2] at h1
 exact of_decide_eq_true h1
theorem xE {p:Pt} (h:jZ p=false):bn p:=by
 rw [qj] at h
 simpa using h
theorem nR {l:List Pt} {k:Nat} (h:k+1<l.length):(l.getD k (0,0),l.getD (k+1) (0,0))∈eD l:=by
 unfold eD GJ
 exact List.mem_map.2 ⟨k,List.mem_range.2 (by omega),rfl⟩
theorem Jc {g:Gr} {d:Dr} (h:(gW g d).1=0):gW g d=(0,0)∧s5 g d:=by
 unfold gW at h ⊢
 split at h
 ·cases h
 rename_i h1
 split at h
 ·cases h
 rename_i h2
 split at h
 ·cases h
 rename_i h3
 split at h
 ·cases h
 rename_i h4
 split at h
 ·cases h
 rename_i h5
 split at h
 ·cases h
 rename_i h6
 split at h
 ·cases h
 rename_i h7
 rw [if_neg h1,if_neg h2,if_neg h3,if_neg h4,if_neg h5,if_neg h6,if_neg h7]
 refine ⟨rfl, ?_⟩
 simp only [Bool.not_eq_false] at h1 h2
 simp only [fz,Bool.and_eq_true,decide_eq_true_eq] at h1
 simp only [dH,Bool.and_eq_true,Bool.not_eq_true',List.any_eq_false] at h2
 obtain ⟨⟨c1,c2⟩,c3⟩:=h1
 have hb:∀l∈d.ls,2≤l.length∧l.length≤8∧∀q∈l,jZ q=false:=fun l hl=>by
  have:=h2.2 l hl
  simp only [iB,Bool.or_eq_true,decide_eq_true_eq,not_or,List.any_eq_true,not_exists,not_and,Bool.not_eq_true] at this
  exact ⟨by omega,by omega,this.2⟩
 have he:∀i,i<g.es.length→(d.ls.getD i []).getD 0 (0,0)=dh d (tl g i)∧(d.ls.getD i []).getD ((d.ls.getD i []).length - 1) (0,0)=dh d (hd g i):=fun i hi=>by
  have:=kP h3 hi
  simp only [om,Bool.and_eq_true,decide_eq_true_eq] at this
  exact this
 exact {
  s9:=c1,np:=c2,nl:=c3
  Lh:=fun q hq=>xE (by have:=h2.1 q hq;simpa using this)
  len:=fun l hl=>⟨(hb l hl).1,(hb l hl).2.1⟩
  kT:=fun l hl q hq=>xE ((hb l hl).2.2 q hq)
  fst:=fun i hi=>(he i hi).1
  IZ:=fun i hi=>(he i hi).2
  BP:=fun i hi k hk=>by
   have:=kP h4 hi
   simp only [fF,Bool.not_eq_true',List.any_eq_false,decide_eq_true_eq,Int.not_le] at this
   exact this _ (nR hk)
  alone:=fun x z hx hz e=>by
   have:=kP h5 hz
   simp only [dY,Bool.not_eq_true',decide_eq_false_iff_not] at this
   refine this ?_
   rw [← e,List.getD_eq_getElem?_getD,List.getElem?_eq_getElem (by omega)]
   exact List.mem_iff_getElem.2 ⟨x,by simp;omega,by simp⟩
  free:=fun i x hi hx h8 h9=>by
   have:=kP h6 hi
   simp only [jw,mh,List.all_eq_true,List.mem_range,Bool.or_eq_true,decide_eq_true_eq,Bool.not_eq_true'] at this
   rcases this x hx with (h|h)|h
   ·exact absurd h h8
   ·exact absurd h h9
   ·exact h
  apart:=fun i k hi hk a ha b hb'=>by
   have:=kP h7 hi
   simp only [fu,gV,List.all_eq_true,List.mem_range,Bool.not_eq_true'] at this
   exact this k hk a ha b hb'}
def gn (d:Dr) (e:Int):Pt:=(ee d e).getD 1 (0,0)
def qD (d:Dr) (x i k:Int):Int:=tm (dh d x) (gn d k) (dh d x) (gn d i)
def iX (d:Dr) (x i k:Int):Prop:=0<qD d x i k
theorem Jd {a b c:Pt} :tm a b a c= -tm a c a b:=by unfold tm;grind
theorem qE {d:Dr} {x i k:Int} :qD d x i k= -qD d x k i:=Jd
theorem Ce {u1 u2 v1 v2 w1 w2:Int} (hu:0<u2) (hv:0<v2) (hw:0<w2) (h1:0<v1*u2 - v2*u1) (h2:0<w1*v2 - w2*v1):0<w1*u2 - w2*u1:=by
 have e:(v1*u2 - v2*u1)*w2+(w1*v2 - w2*v1)*u2=v2*(w1*u2 - w2*u1):=by grind
 have p1:=Int.mul_pos h1 hw
 have p2:=Int.mul_pos h2 hu
 have p3:0<v2*(w1*u2 - w2*u1):=by omega
 exact Int.pos_of_mul_pos_right p3 hv
section
variable {g:Gr} {d:Dr} (h:s5 g d)
include h
theorem fS {e:Int} (h0:0≤e) (h1:e<g.es.length):ee d e∈d.ls:=by
 unfold ee
 exact aD (by have:=h.nl;omega)
theorem pG {e x:Int} (h0:0≤e) (h1:e<g.es.length) (hx:kX g e=x):(dh d x).2<(gn d e).2:=by
 have hl:=(h.len _ (fS h h0 h1)).1
 have h2:=h.BP e.toNat (by omega) 0 (by show 0+1<(ee d e).length;omega)
 have h3:=h.fst e.toNat (by omega)
 have h4:tl g e.toNat=x:=hx
 rw [h3,h4] at h2
 exact h2
theorem EL {x i k j:Int} (hi:0≤i∧i<g.es.length) (hk:0≤k∧k<g.es.length) (hj:0≤j∧j<g.es.length) (xi:kX g i=x) (xk:kX g k=x) (xj:kX g j=x) (h1:iX d x i k) (h2:iX d x k j):iX d x i j:=by
 have u:=pG h hi.1 hi.2 xi
 have v:=pG h hk.1 hk.2 xk
 have w:=pG h hj.1 hj.2 xj
 unfold iX qD tm at*
 exact Ce (u1:=(gn d i).1 - (dh d x).1) (v1:=(gn d k).1 - (dh d x).1) (w1:=(gn d j).1 - (dh d x).1) (by omega) (by omega) (by omega) h1 h2
end
theorem qF {d:Dr} {x i k:Int} (h1:iX d x i k) (h2:iX d x k i):False:=by
 unfold iX at*
 rw [qE] at h2
 omega
theorem Hv {p a b:Pt} (hp:bn p) (ha:bn a) (hb:bn b) (ua:p.2<a.2) (ub:p.2<b.2) (h0:tm p a p b=0):eW p a p b=2:=by
 rw [← C3]
 unfold gC
 have e1:p≠a:=fun e=>by rw [e] at ua;omega
 have e2:p≠b:=fun e=>by rw [e] at ub;omega
 have hA:aj p a p=0:=by unfold aj;grind
 have hB:aj p a b=0:=by unfold aj;unfold tm at h0;grind
 have c0:gB 0 0=0:=by decide
 rw [if_pos ⟨hp,ha,hp,hb⟩,if_neg e1,if_neg e2,hA,hB,c0,if_pos ⟨rfl,rfl⟩]
 have d1:an p a p=0:=by unfold an;grind
 have d2:0<an p a a:=by
  unfold an
  have h1:0<(a.2 - p.2)*(a.2 - p.2):=Int.mul_pos (by omega) (by omega)
  have h2:0≤(a.1 - p.1)*(a.1 - p.1):=by
   rcases Int.le_total 0 (a.1 - p.1) with h|h
   ·exact Int.mul_nonneg h h
   ·exact Int.mul_nonneg_of_nonpos_of_nonpos h h
  omega
 have d3:0<an p a b:=by
  unfold an
  unfold tm at h0
  have hab:0<(a.2 - p.2)*(b.2 - p.2):=Int.mul_pos (by omega) (by omega)
  have e:((b.1 - p.1)*(a.1 - p.1)+(b.2 - p.2)*(a.2 - p.2))*((a.2 - p.2)*(b.2 - p.2))=((a.1 - p.1)*(b.2 - p.2))*((a.1 - p.1)*(b.2 - p.2))+((a.2 - p.2)*(b.2 - p.2))*((a.2 - p.2)*(b.2 - p.2)):=by grind
  have h2:0≤((a.1 - p.1)*(b.2 - p.2))*((a.1 - p.1)*(b.2 - p.2)):=by
   rcases Int.le_total 0 ((a.1 - p.1)*(b.2 - p.2)) with h|h
   ·exact Int.mul_nonneg h h
   ·exact Int.mul_nonneg_of_nonpos_of_nonpos h h
  have h3:=Int.mul_pos hab hab
  have h4:0<((b.1 - p.1)*(a.1 - p.1)+(b.2 - p.2)*(a.2 - p.2))*((a.2 - p.2)*(b.2 - p.2)):=by omega
  exact Int.pos_of_mul_pos_left h4 hab
 rw [d1]
 rw [if_neg (by omega),if_neg (by omega)]
section
variable {g:Gr} {d:Dr} (h:s5 g d)
include h
theorem EM {x i k:Int} (hi:0≤i∧i<g.es.length) (hk:0≤k∧k<g.es.length) (xi:kX g i=x) (xk:kX g k=x) (hne:i≠k):iX d x i k∨iX d x k i:=by
 have key:∀ {i k:Int},(0≤i∧i<g.es.length)→(0≤k∧k<g.es.length)→kX g i=x→kX g k=x→k<i→qD d x i k≠0:=fun {i k} hi hk xi xk hlt e=>by
  have hx:bn (dh d x):=by
   have:=h.fst i.toNat (by omega)
   have e2:tl g i.toNat=x:=xi
   rw [e2] at this
   rw [← this]
   exact h.kT _ (fS h hi.1 hi.2) _ (aD (by have:=(h.len _ (fS h hi.1 hi.2)).1;show 0<(ee d i).length;omega))
  have li:=(h.len _ (fS h hi.1 hi.2)).1
  have lk:=(h.len _ (fS h hk.1 hk.2)).1
  have p1:=nR (l:=ee d i) (k:=0) (by omega)
  have p2:=nR (l:=ee d k) (k:=0) (by omega)
  have f1:(ee d i).getD 0 (0,0)=dh d x:=by rw [← xi];exact h.fst i.toNat (by omega)
  have f2:(ee d k).getD 0 (0,0)=dh d x:=by rw [← xk];exact h.fst k.toNat (by omega)
  have hb:=h.apart i.toNat k.toNat (by omega) (by omega) _ p1 _ p2
  rw [f1,f2] at hb
  have m2:=Hv (p:=dh d x) (a:=gn d i) (b:=gn d k) hx (h.kT _ (fS h hi.1 hi.2) _ (aD (by omega))) (h.kT _ (fS h hk.1 hk.2) _ (aD (by omega))) (pG h hi.1 hi.2 xi) (pG h hk.1 hk.2 xk) (by
   have:qD d x i k=0:=e
   rw [qE] at this
   unfold qD at this
   omega)
  have m3:eW (dh d x) ((ee d i).getD (0+1) (0,0)) (dh d x) ((ee d k).getD (0+1) (0,0))=2:=m2
  unfold fG at hb
  simp only [m3] at hb
  simp at hb
 have e0:=qE (d:=d) (x:=x) (i:=i) (k:=k)
 rcases Int.lt_trichotomy i k with hlt|he|hlt
 ·have:=key hk hi xk xi hlt
  unfold iX
  omega
 ·exact absurd he hne
 ·have:=key hi hk xi xk hlt
  unfold iX
  omega
end
end Go.Ab
end
section
namespace Go.Ab
open Go.Proofs
set_option maxRecDepth 10000
structure Cv (p q:Pt) (y X:Rat):Prop where
 lo:(p.2:Rat)≤y
 hi:y≤(q.2:Rat)
 eq:(X - p.1)*(q.2 - p.2)=(q.1 - p.1)*(y - p.2)
theorem qG {p q r s:Pt} {y X:Rat} (h1:Cv p q y X) (h2:Cv r s y X):((aj p q r:Int):Rat)*(s.2 - r.2)=(r.2 - y)*((tm p q r s:Int):Rat):=by
 have e1:=h1.eq
 have e2:=h2.eq
 unfold aj tm
 push_cast
 grind
theorem AE {p q r s:Pt} {y X:Rat} (h1:Cv p q y X) (h2:Cv r s y X):((aj p q s:Int):Rat)*(s.2 - r.2)=(s.2 - y)*((tm p q r s:Int):Rat):=by
 have e1:=h1.eq
 have e2:=h2.eq
 unfold aj tm
 push_cast
 grind
theorem gF {a b:Rat} (ha:a≤0) (hb:0≤b):a*b≤0:=by
 have:=Rat.mul_nonneg (show 0≤ -a by grind) hb
 grind
theorem Lj (a:Rat):0≤a*a:=by
 rcases (show 0≤a∨a≤0 from Rat.le_total) with h|h
 ·exact Rat.mul_nonneg h h
 ·have:=Rat.mul_nonneg (show 0≤ -a by grind) (show 0≤ -a by grind)
  grind
theorem Dp {p q r s:Pt} {y X:Rat} (h1:Cv p q y X) (h2:Cv r s y X) (hr:r.2<s.2):aj p q r*aj p q s≤0:=by
 have a1:=qG h1 h2
 have a2:=AE h1 h2
 have hp:(0:Rat)<s.2 - r.2:=by
  have:(r.2:Rat)<s.2:=by exact_mod_cast hr
  grind
 generalize ((tm p q r s:Int):Rat)=M at a1 a2
 have l1:=h2.lo
 have l2:=h2.hi
 have k:((aj p q r*aj p q s:Int):Rat)≤0:=by
  push_cast
  generalize ((aj p q r:Int):Rat)=A at a1 a2 ⊢
  generalize ((aj p q s:Int):Rat)=B at a1 a2 ⊢
  generalize hD:(s.2:Rat) - r.2=D at*
  have e:(A*B)*(D*D)=(((r.2:Rat) - y)*(s.2 - y))*(M*M):=by grind
  have n1:((r.2:Rat) - y)*(s.2 - y)≤0:=gF (by grind) (by grind)
  have n2:=gF n1 (Lj M)
  have dp:0<D*D:=Rat.mul_pos hp hp
  refine Rat.not_lt.1 fun hn=> ?_
  have:=Rat.mul_pos hn dp
  grind
 exact_mod_cast k
theorem ni {p q c:Pt} (hu:p.2<q.2) (h:aj p q c=0) (h1:p.2≤c.2) (h2:c.2≤q.2):iu p q c=true:=by
 refine fc.2 ⟨h, ?_, ?_⟩
 ·have e:((p.1 - c.1)*(q.1 - c.1))*((q.2 - p.2)*(q.2 - p.2))= -(((q.1 - p.1)*(q.1 - p.1))*((c.2 - p.2)*(q.2 - c.2))):=by
   unfold aj at h
   grind
  refine cu (s:=q.2 - p.2) (by omega) ?_
  rw [e]
  have:=Int.mul_nonneg (sq_nonneg (q.1 - p.1)) (Int.mul_nonneg (show 0≤c.2 - p.2 by omega) (show 0≤q.2 - c.2 by omega))
  omega
 ·exact Int.mul_nonpos_of_nonpos_of_nonneg (by omega) (by omega)
theorem EN {p q c:Pt} (hu:p.2<q.2) (h:iu p q c=true):p.2≤c.2∧c.2≤q.2∧aj p q c=0:=by
 obtain ⟨h1,_,h3⟩:=fc.1 h
 refine ⟨Int.not_lt.1 fun hn=> ?_,Int.not_lt.1 fun hn=> ?_,h1⟩
 ·have:=Int.mul_pos (show 0<p.2 - c.2 by omega) (show 0<q.2 - c.2 by omega)
  omega
 ·have:=Int.mul_pos_of_neg_of_neg (show p.2 - c.2<0 by omega) (show q.2 - c.2<0 by omega)
  omega
theorem jF {p q c:Pt} (hu:p.2<q.2) (h:iu p q c=true):Cv p q c.2 c.1:=by
 obtain ⟨h1,h2,h3⟩:=EN hu h
 refine ⟨by exact_mod_cast h1,by exact_mod_cast h2, ?_⟩
 have e:(c.1 - p.1)*(q.2 - p.2)=(q.1 - p.1)*(c.2 - p.2):=by unfold aj at h3;grind
 exact_mod_cast e
theorem Hw {p q c:Pt} (hu:p.2<q.2) (h:Cv p q c.2 c.1):iu p q c=true:=by
 have e:(c.1 - p.1)*(q.2 - p.2)=(q.1 - p.1)*(c.2 - p.2):=by have:=h.eq;exact_mod_cast this
 have h1:=h.lo
 have h2:=h.hi
 exact ni hu (by unfold aj;grind) (by exact_mod_cast h1) (by exact_mod_cast h2)
theorem Hx {l:List (List Int)} {a b:List Int} (ha:a∈l) (hb:b∈l) (hne:a≠b):2≤l.length:=by
 match l,ha,hb with
 | [c],ha,hb=>simp at ha hb;exact absurd (ha.trans hb.symm) hne
 |_::_::_,_,_=>simp
theorem tH {p q r s:Pt} {y X:Rat} (h1:Cv p q y X) (h2:Cv r s y X) (hr:r.2<s.2) (hT:tm p q r s=0):aj p q r=0∧aj p q s=0:=by
 have a1:=qG h1 h2
 have a2:=AE h1 h2
 rw [hT] at a1 a2
 have hp:(0:Rat)<s.2 - r.2:=by
  have:(r.2:Rat)<s.2:=by exact_mod_cast hr
  grind
 refine ⟨?_, ?_⟩
 ·have:((aj p q r:Int):Rat)=0:=by
   generalize ((aj p q r:Int):Rat)=A at*
   push_cast at a1
   grind
  exact_mod_cast this
 ·have:((aj p q s:Int):Rat)=0:=by
   generalize ((aj p q s:Int):Rat)=A at*
   push_cast at a2
   grind
  exact_mod_cast this
theorem Dq {p q:Pt} {y X:Rat} {c:Int} (h:Cv p q y X):((c:Rat)≤y→c≤q.2)∧(y≤(c:Rat)→p.2≤c):=by
 have h1:=h.lo
 have h2:=h.hi
 exact ⟨fun h3=>by have:(c:Rat)≤q.2:=by grind
                   exact_mod_cast this,fun h3=>by have:(p.2:Rat)≤c:=by grind
                                                  exact_mod_cast this⟩
theorem Hy {p q r s:Pt} {y X:Rat} (hu:p.2<q.2) (hr:r.2<s.2) (h1:Cv p q y X) (h2:Cv r s y X) (hT:tm p q r s=0):∃c,vU p q r s c∧(c.2:Rat)≤y:=by
 have DG:tm r s p q=0:=by rw [tr];omega
 have f1:=(tH h1 h2 hr hT).1
 have f2:=(tH h2 h1 hu DG).1
 rcases Int.le_total p.2 r.2 with h|h
 ·exact ⟨r, .inr (.inr (.inl ⟨ni hu f1 h ((Dq h1).1 h2.lo),rfl⟩)),h2.lo⟩
 ·exact ⟨p, .inl ⟨ni hr f2 h ((Dq h2).1 h1.lo),rfl⟩,h1.lo⟩
theorem Ll {p q r s:Pt} {y X:Rat} (hu:p.2<q.2) (hr:r.2<s.2) (h1:Cv p q y X) (h2:Cv r s y X) (hT:tm p q r s=0):∃c,vU p q r s c∧y≤(c.2:Rat):=by
 have DG:tm r s p q=0:=by rw [tr];omega
 have f1:=(tH h1 h2 hr hT).2
 have f2:=(tH h2 h1 hu DG).2
 rcases Int.le_total q.2 s.2 with h|h
 ·exact ⟨q, .inr (.inl ⟨ni hr f2 ((Dq h2).2 h1.hi) h,rfl⟩),h1.hi⟩
 ·exact ⟨s, .inr (.inr (.inr ⟨ni hu f1 ((Dq h1).2 h2.hi) h,rfl⟩)),h2.hi⟩
theorem Je {p q r s:Pt} {y X:Rat} (hu:p.2<q.2) (hr:r.2<s.2) (h1:Cv p q y X) (h2:Cv r s y X):1≤fm p q r s:=by
 by_cases hT:tm p q r s=0
 ·obtain ⟨c,hc,_⟩:=Hy hu hr h1 h2 hT
  have:0<(K4 p q r s).length:=List.length_pos_iff.2 (List.ne_nil_of_mem (gD.2 ⟨c,hc,rfl⟩))
  unfold fm
  rw [if_pos this]
  omega
 ·rw [sD hT,if_pos ⟨Dp h1 h2 hr,Dp h2 h1 hu⟩]
  omega
theorem AF {p q r s:Pt} {y z X Z:Rat} (hu:p.2<q.2) (hr:r.2<s.2) (h1:Cv p q y X) (h2:Cv r s y X) (h3:Cv p q z Z) (h4:Cv r s z Z) (hyz:y<z):fm p q r s=2:=by
 have hT:tm p q r s=0:=by
  have a1:=qG h1 h2
  have a2:=qG h3 h4
  have:((tm p q r s:Int):Rat)=0:=by
   generalize ((tm p q r s:Int):Rat)=M at*
   have:(z - y)*M=0:=by grind
   have:z - y≠0:=by grind
   grind
  exact_mod_cast this
 obtain ⟨c,hc,c1⟩:=Hy hu hr h1 h2 hT
 obtain ⟨e,he,e1⟩:=Ll hu hr h3 h4 hT
 have hne:key c≠key e:=fun h=>by
  have:c.2=e.2:=by unfold key at h;simp at h;exact h.2
  rw [this] at c1
  grind
 have:=Hx (gD.2 ⟨c,hc,rfl⟩) (gD.2 ⟨e,he,rfl⟩) hne
 unfold fm
 rw [if_pos (by omega)]
 omega
theorem yV {p q:Pt} {y X Z:Rat} (hu:p.2<q.2) (h1:Cv p q y X) (h2:Cv p q y Z):X=Z:=by
 have hp:(0:Rat)<q.2 - p.2:=by
  have:(p.2:Rat)<q.2:=by exact_mod_cast hu
  grind
 have e1:=h1.eq
 have e2:=h2.eq
 generalize (q.2:Rat) - p.2=D at*
 have:(X - Z)*D=0:=by grind
 grind
theorem vC {p q:Pt} {y:Rat} (hu:p.2<q.2) (h1:(p.2:Rat)≤y) (h2:y≤q.2):∃X,Cv p q y X:=by
 have hp:(0:Rat)<q.2 - p.2:=by
  have:(p.2:Rat)<q.2:=by exact_mod_cast hu
  grind
 refine ⟨p.1+(q.1 - p.1)*(y - p.2) / (q.2 - p.2),h1,h2, ?_⟩
 generalize (q.2:Rat) - p.2=D at*
 grind
def mz (l:List Pt) (y X:Rat):Prop:=∃j,j+1<l.length∧Cv (l.getD j (0,0)) (l.getD (j+1) (0,0)) y X
def Jf (l:List Pt):Prop:=∀k,k+1<l.length→(l.getD k (0,0)).2<(l.getD (k+1) (0,0)).2
theorem yW {l:List Pt} (h:Jf l) {i:Nat} :∀ {j:Nat},i<j→j<l.length→(l.getD i (0,0)).2<(l.getD j (0,0)).2
 |j+1,hij,hj=>by
  have h1:=h j hj
  rcases Nat.lt_or_ge i j with h2|h2
  ·have:=yW h h2 (by omega)
   omega
  ·rw [show i=j by omega];exact h1
theorem vD {l:List Pt} (h:Jf l) {i j:Nat} (hij:i≤j) (hj:j<l.length):(l.getD i (0,0)).2≤(l.getD j (0,0)).2:=by
 rcases Nat.lt_or_ge i j with h2|h2
 ·exact Int.le_of_lt (yW h h2 hj)
 ·rw [show i=j by omega];omega
theorem xF {l:List Pt} (h:Jf l) {y X Z:Rat} {i j:Nat} (hij:i≤j) (hj:j+1<l.length) (h1:Cv (l.getD i (0,0)) (l.getD (i+1) (0,0)) y X) (h2:Cv (l.getD j (0,0)) (l.getD (j+1) (0,0)) y Z):X=Z:=by
 rcases Nat.lt_or_ge i j with hlt|hge
 ·have a1:=vD h (show i+1≤j by omega) (by omega)
  have a2:(l.getD j (0,0)).2≤(l.getD (i+1) (0,0)).2:=by
   have k1:=h1.hi
   have k2:=h2.lo
   have:((l.getD j (0,0)).2:Rat)≤(l.getD (i+1) (0,0)).2:=by grind
   exact_mod_cast this
  have hji:j=i+1:=by
   rcases Nat.lt_or_ge (i+1) j with h3|h3
   ·have:=yW h h3 (by omega);omega
   ·omega
  subst hji
  have u1:=h i (by omega)
  have u2:=h (i+1) (by omega)
  have hy:y=(l.getD (i+1) (0,0)).2:=by
   have k1:=h1.hi
   have k2:=h2.lo
   grind
  rw [hy] at h1 h2
  have c1:=jF u1 (c:=l.getD (i+1) (0,0)) (by rw [qm];exact lK)
  have c2:=jF u2 (c:=l.getD (i+1) (0,0)) lK
  exact (yV u1 h1 c1).trans (yV u2 c2 h2)
 ·obtain rfl:i=j:=by omega
  exact yV (h i hj) h1 h2
theorem gG {l:List Pt} (h:Jf l) {y X Z:Rat} (h1:mz l y X) (h2:mz l y Z):X=Z:=by
 obtain ⟨i,hi,h1⟩:=h1
 obtain ⟨j,hj,h2⟩:=h2
 rcases Nat.le_total i j with hij|hij
 ·exact xF h hij hj h1 h2
 ·exact (xF h hij hi h2 h1).symm
theorem nS {l:List Pt} {y:Int} (h0:(l.getD 0 (0,0)).2≤y):∀ {n:Nat},n<l.length→y<(l.getD n (0,0)).2→∃j,j+1<l.length∧(l.getD j (0,0)).2≤y∧y+1≤(l.getD (j+1) (0,0)).2
 |0,_,h=>absurd h0 (by omega)
 |n+1,hn,h=>by
  rcases Int.lt_or_le y (l.getD n (0,0)).2 with h1|h1
  ·exact nS h0 (by omega) h1
  ·exact ⟨n,hn,h1,by omega⟩
theorem Lm {l:List Pt} (h:Jf l) {y:Int} (hl:2≤l.length) (h0:(l.getD 0 (0,0)).2≤y) (h1:y≤(l.getD (l.length - 1) (0,0)).2):∃X,mz l y X:=by
 rcases Int.lt_or_le y (l.getD (l.length - 1) (0,0)).2 with h2|h2
 ·obtain ⟨j,j1,j2,j3⟩:=nS h0 (by omega) h2
  obtain ⟨X,hX⟩:=vC (p:=l.getD j (0,0)) (q:=l.getD (j+1) (0,0)) (y:=(y:Rat)) (by omega) (by exact_mod_cast j2) (by exact_mod_cast (show y≤_ by omega))
  exact ⟨X,j,j1,hX⟩
 ·obtain ⟨m,hm⟩:∃m,l.length=m+2:=⟨l.length - 2,by omega⟩
  have hy:y=(l.getD (m+1) (0,0)).2:=by rw [hm] at h1 h2;simp only [Nat.add_sub_cancel,show m+2 - 1=m+1 by omega] at h1 h2;omega
  rw [hy]
  exact ⟨_,m,by omega,jF (h m (by omega)) (by rw [qm];exact lK)⟩
theorem Hz {p q:Pt} {y t X1 X2:Rat} (hu:p.2<q.2) (h1:Cv p q y X1) (h2:Cv p q (y+1) X2) (t1:y≤t) (t2:t≤y+1):Cv p q t (X1+(X2 - X1)*(t - y)):=by
 have e1:=h1.eq
 have e2:=h2.eq
 have l1:=h1.lo
 have l2:=h2.hi
 refine ⟨by grind,by grind, ?_⟩
 have:(X2 - X1)*((q.2:Rat) - p.2)=q.1 - p.1:=by grind
 grind
theorem AG {l m:List Pt} (hl:Jf l) (hm:Jf m) (ll:2≤l.length) (lm:2≤m.length) {y:Int} {X1 X2 Z1 Z2:Rat}
 (a1:mz l y X1) (b1:mz m y Z1) (a2:mz l (y+1:Int) X2) (b2:mz m (y+1:Int) Z2) (h1:X1<Z1) (h2:Z2<X2):∃t W:Rat,(y:Rat)<t∧t<(y+1:Int)∧mz l t W∧mz m t W:=by
 have uV:∀ {l:List Pt} {y:Int} {X:Rat},Jf l→mz l y X→(l.getD 0 (0,0)).2≤y∧y≤(l.getD (l.length - 1) (0,0)).2:=fun {l y X} hl h=>by
  obtain ⟨j,hj,h⟩:=h
  have k1:=h.lo
  have k2:=h.hi
  have k3:(l.getD j (0,0)).2≤y:=by exact_mod_cast k1
  have k4:y≤(l.getD (j+1) (0,0)).2:=by exact_mod_cast k2
  have k5:=vD hl (Nat.zero_le j) (by omega)
  have k6:=vD hl (show j+1≤l.length - 1 by omega) (by omega)
  omega
 obtain ⟨j,j1,j2,j3⟩:=nS (uV hl a1).1 (n:=l.length - 1) (by omega) (by have:=(uV hl a2).2;omega)
 obtain ⟨i,i1,i2,i3⟩:=nS (uV hm b1).1 (n:=m.length - 1) (by omega) (by have:=(uV hm b2).2;omega)
 have uj:=hl j j1
 have ui:=hm i i1
 have cast:((y+1:Int):Rat)=(y:Rat)+1:=by push_cast;rfl
 obtain ⟨x1,c1⟩:=vC (y:=(y:Rat)) uj (by exact_mod_cast j2) (by exact_mod_cast (show y≤_ by omega))
 obtain ⟨x2,c2⟩:=vC (y:=((y+1:Int):Rat)) uj (by exact_mod_cast (show _≤y+1 by omega)) (by exact_mod_cast j3)
 obtain ⟨z1,d1⟩:=vC (y:=(y:Rat)) ui (by exact_mod_cast i2) (by exact_mod_cast (show y≤_ by omega))
 obtain ⟨z2,d2⟩:=vC (y:=((y+1:Int):Rat)) ui (by exact_mod_cast (show _≤y+1 by omega)) (by exact_mod_cast i3)
 obtain rfl:=gG hl a1 ⟨j,j1,c1⟩
 obtain rfl:=gG hl a2 ⟨j,j1,c2⟩
 obtain rfl:=gG hm b1 ⟨i,i1,d1⟩
 obtain rfl:=gG hm b2 ⟨i,i1,d2⟩
 rw [cast] at c2 d2
 obtain ⟨u,hu⟩:∃u:Rat,u=(Z1 - X1) / ((Z1 - X1)+(X2 - Z2)):=⟨_,rfl⟩
 have hD:0<(Z1 - X1)+(X2 - Z2):=by grind
 have VQ:u*((Z1 - X1)+(X2 - Z2))=Z1 - X1:=by grind
 have u0:0<u:=by
  refine Rat.not_le.1 fun hn=> ?_
  have:=gF hn (Rat.le_of_lt hD)
  grind
 have u1:u<1:=by
  refine Rat.not_le.1 fun hn=> ?_
  have:=Rat.mul_nonneg (show 0≤u - 1 by grind) (Rat.le_of_lt hD)
  grind
 refine ⟨y+u,X1+(X2 - X1)*u,by grind,by rw [cast];grind,⟨j,j1, ?_⟩,⟨i,i1, ?_⟩⟩
 ·have:=Hz uj c1 c2 (t:=y+u) (by grind) (by grind)
  rwa [show (y:Rat)+u - y=u by grind] at this
 ·have:=Hz ui d1 d2 (t:=y+u) (by grind) (by grind)
  rw [show (y:Rat)+u - y=u by grind,show Z1+(Z2 - Z1)*u=X1+(X2 - X1)*u by grind] at this
  exact this
end Go.Ab
end
