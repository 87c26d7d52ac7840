/- Blocks, walked: the search goes through a vertex. -/
import Derived.Test.YtameldglfobjkaaL5P15
set_option linter.unusedSimpArgs false
set_option linter.unusedVariables false
namespace Go.Ab
open Go.Proofs
attribute [local congr] ACall.congr gd.congr Nx.congr
set_option maxRecDepth 20000
set_option maxHeartbeats 16000000
def xw:Option Nat→Int
 |none=> -1
 |some i=>i
theorem yl {i:Nat} {b:Option Nat} :decide ((i:Int)=xw b)=decide (some i=b):=by
 cases b with
 |none=>simp [xw]
 |some k=>
  rw [Bool.eq_iff_iff,decide_eq_true_eq,decide_eq_true_eq]
  constructor
  ·intro h
   have h':(i:Int)=(k:Int):=h
   have:i=k:=by omega
   rw [this]
  ·intro h
   cases h
   rfl
def aO (g:Gr) (s:UG.Sc) (a b:Nat):List (Nat × AObj):= [(10000, .box (bL g s.cnt (.ref a) (.ref b))),(10001, .own 3 1 (s.num.map rN)),(10002, .own 3 1 (s.low.map rN)),(a, .own 3 1 (s.stk.map rN)),(b, .own 25 1 (s.blk.map lp))]
theorem rZ {g:Gr} {x:Nat} (hx:x<g.n.toNat):(((List.range g.n.toNat).map fun x=>(ug g).ends x).map lp).getD x [D.sl 1 []]= [sN ((ug g).ends x)]:=by
 simp [List.getD_eq_getElem?_getD,List.getElem?_range hx,lp]
theorem AX {n:Nat} :decide ((n:Int)=0)=decide (n=0):=by simp
theorem decLt {a b:Nat} :decide ((a:Int)<(b:Int))=decide (a<b):=by simp
theorem decLe {a b:Nat} :decide ((a:Int)≤(b:Int))=decide (a≤b):=by simp
theorem cG {a b:Nat} :min (a:Int) (b:Int)=((min a b:Nat):Int):=by omega
section
variable (g:Gr) (hm:aQ g=true) (hl:aW g=true)
include hm hl
theorem qa (f:Nat) (ih:∀(s:UG.Sc) (x:Nat) (aq:Option Nat) (P:List Nat),(ug g).gO s≤f→(ug g).Pre s x aq P→(ug g).Bd s→
 Spec Try.prog 40 (Args [.ptr 10000 0,eN x,eN (xw aq)]) (aO g s 10003 10004) (.tup []) (aO g ((ug g).cA dZ f x aq s) 10005 10006))
 (s:UG.Sc) (x:Nat) (aq:Option Nat) (P:List Nat) (hf:(ug g).gO s≤f+1) (hp:(ug g).Pre s x aq P) (hb:(ug g).Bd s):
 Spec Try.prog 40 (Args [.ptr 10000 0,eN x,eN (xw aq)]) (aO g s 10003 10004) (.tup []) (aO g ((ug g).cA dZ (f+1) x aq s) 10005 10006):=by
 have hn:=eo hm
 have hG:=lN hm hl
 have kO:=hb.len
 have hx:x<g.n.toNat:=hp.hy
 have pH:(ug g).ends x=(ug g).ends x:=rfl
 have wj:=hp.ln
 have o3:=hp.ll
 have hgd:=rZ (g:=g) hx
 have hpi:=UG.oo hG dr f hf hp
 have cT:=fun k hk=>UG.rY hG dr f (s:=s) (y:=x) (aq:=aq) (k:=k) hk
 have BO:=UG.wu hG (so:=dZ) f (aq:=aq) hp.ln hp.hy hp.un
 have hbd:∀k,k≤((ug g).ends x).length→(ug g).Bd ((((ug g).ends x).take k).foldl ((ug g).bK dZ (fun y i=>(ug g).cA dZ f y (some i)) x aq) (UG.iP s x)):=fun k hk=>UG.uK hG hb hp (hpi k hk) (BO k)
 have hres:(ug g).cA dZ (f+1) x aq s=(((ug g).ends x).take ((ug g).ends x).length).foldl ((ug g).bK dZ (fun y i=>(ug g).cA dZ f y (some i)) x aq) (UG.iP s x):=by rw [List.take_length];rfl
 rw [hres]
 have hlen:((ug g).ends x).length≤g.es.length:=by
  have:=List.length_filter_le (fun i=>decide ((ug g).T i=x)||decide ((ug g).H i=x)) (List.range (ug g).m)
  rw [List.length_range] at this
  exact this
 have hin:UG.iP s x=⟨s.num.set x (s.cnt+1),s.low.set x (s.cnt+1),s.cnt+1,s.stk,s.blk⟩:=rfl
 have BP:(((ug g).ends x).take 0).foldl ((ug g).bK dZ (fun y i=>(ug g).cA dZ f y (some i)) x aq) (UG.iP s x)=⟨s.num.set x (s.cnt+1),s.low.set x (s.cnt+1),s.cnt+1,s.stk,s.blk⟩:=rfl
 obtain ⟨F,hF⟩:∃F:Nat→UG.Sc,F=fun k=>(((ug g).ends x).take k).foldl ((ug g).bK dZ (fun y i=>(ug g).cA dZ f y (some i)) x aq) (UG.iP s x):=⟨_,rfl⟩
 have fJ:∀k,(((ug g).ends x).take k).foldl ((ug g).bK dZ (fun y i=>(ug g).cA dZ f y (some i)) x aq) (UG.iP s x)=F k:=fun k=>by rw [hF]
 simp only [fJ] at hpi cT BO hbd BP ⊢
 clear hF fJ hin hres
 obtain ⟨num,low,cnt,stk,blk⟩:=s
 simp only at kO wj o3 BP
 have su:=hbd 0 (Nat.zero_le _)
 have su:=su.len.2.2
 rw [BP] at su
 have hun:num.length=g.n.toNat:=wj
 have wX:low.length=g.n.toNat:=o3
 simp only [aO]
 (refine Spec.z6 (C:=T.cfg [72,141,34,25] []) (rs:= []) [(10005,200),(10006,201)] (T.aI _ _) Try.func40 rfl rfl Try.ntmps40 Try.results40 (by simp [AObj.isNest]) (by simp [AObj.isNest]) (by first|(simp [look];done)|(simp [asN];done)|(intro l hl;simp only [asN];repeat (rw [if_neg (fun e=>by subst e;simp [look] at hl)]))) (by first|(simp [look];done)|(simp [asN];done)|(intro l hl;simp only [asN];repeat (rw [if_neg (fun e=>by subst e;simp [look] at hl)]))) (by kernel_rfl) T.mixed fun X hX hP hC cz gV=> ?_)
 repeat' (first|refine Rn.p ?_|(with_reducible apply And.intro)|((first|(refine hK _ ?_;clear hK K)|with_reducible intro K hK|refine Rs.p ?_|((with_reducible first|apply oP|apply oQ);exact rfl));try simp only [go_sem,simprocAttr,aO,bL,hgd,aH,List.length_range])|((with_reducible refine oD ?_ ?_);kernel_rfl)|((with_reducible intro h);try simp only [go_sem,simprocAttr,aO,bL,hgd,aH,List.length_range] at h)|omega|intro h)
 (refine cR hX 10000 6 10003 200 rfl rfl rfl (by first|exact .inl rfl|exact .inr rfl) (by decide) (by decide) ?_;simp only [List.set_cons_zero,List.set_cons_succ,go_sem,simprocAttr,aO,bL,hgd,aH,List.length_range])
 (refine cR hX 10000 7 10004 201 rfl rfl rfl (by first|exact .inl rfl|exact .inr rfl) (by decide) (by decide) ?_;simp only [List.set_cons_zero,List.set_cons_succ,go_sem,simprocAttr,aO,bL,hgd,aH,List.length_range])
 refine au (fun k:Nat=>k≤((ug g).ends x).length) (fun k=>⟨[(0, .ptr 10000 0),(1,eN x),(2,eN (xw aq)),(42, .d (sN ((ug g).ends x))),(43,eN ((ug g).ends x).length),(44,eN k)],aO g (F k) 200 201⟩) (fun k=>((ug g).ends x).length - k) 0 (Nat.zero_le _) ?_ ?_
 ·rw [BP]
  refine Le.of ?_ ?_<;>simp [go_sem,simprocAttr,aO,bL,hgd,aH,List.length_range,rN]
 rintro k hk
 rcases Nat.lt_or_ge k ((ug g).ends x).length with hlt|hge
 rotate_left
 ·have b7:decide ((k:Int)<(((ug g).ends x).length:Int))=false:=decide_eq_false (by omega)
  obtain rfl:k=((ug g).ends x).length:=by omega
  repeat' (first|refine Rn.p ?_|(with_reducible apply And.intro)|((first|(refine hK _ ?_;clear hK K)|with_reducible intro K hK|refine Rs.p ?_|((with_reducible first|apply oP|apply oQ);exact rfl));try simp only [go_sem,simprocAttr,aO,bL,b7])|((with_reducible refine oD ?_ ?_);kernel_rfl)|((with_reducible intro h);try simp only [go_sem,simprocAttr,aO,bL,b7] at h)|omega|intro h)
 have b7:decide ((k:Int)<(((ug g).ends x).length:Int))=true:=decide_eq_true (by omega)
 obtain ⟨i,hik⟩:∃i,((ug g).ends x).getD k 0=i:=⟨_,rfl⟩
 have hmem:i∈(ug g).ends x:=by
  rw [← hik,List.getD_eq_getElem?_getD,List.getElem?_eq_getElem hlt]
  exact List.getElem_mem hlt
 have hni:i∉((ug g).ends x).take k:=fun h=>by
  have bU:=UG.mF (G:=ug g) (x:=x)
  rw [List.getD_eq_getElem?_getD,List.getElem?_eq_getElem hlt,Option.getD_some] at hik
  obtain ⟨j,hj1,hj2⟩:=List.mem_iff_getElem.1 h
  rw [List.length_take] at hj1
  rw [List.getElem_take, ← hik] at hj2
  have:=(List.getElem_inj (h₀:=by omega) (h₁:=hlt) bU).1 hj2
  omega
 obtain ⟨z,hj⟩:=UG.eL.1 hmem
 have hnk:=cT k hlt
 have DR:=hbd (k+1) (by omega)
 rw [hik] at hnk
 have hi:=hpi k hk
 have hbk:=hbd k hk
 have hpt:=fun h=>UG.kC hG hp hi hj h
 have AY:=fun h=>UG.wv hG hp hi hbk hj h
 have BA:=hj.lt hG
 have BQ:z<g.n.toNat:=BA.2.1
 have Gp:z≠x:=Ne.symm BA.2.2
 have him:i<g.es.length:=hj.1
 have EJ:x=(tl g i).toNat∨x=(hd g i).toNat:=by
  have:=hj.2
  simp only [ug] at this
  omega
 have AZ:(ug g).gO (F k)<(ug g).gO ⟨num,low,cnt,stk,blk⟩:=UG.mH (fun v hv=>by rw [(hi.keep v hv).1];exact hv) hp.hy hp.un (by rw [hi.ny];omega)
 have EK:(ug g).sD i x=z:=UG.mG hj
 have hO:=fun (c1 c2 c3 c4 c5 c6:D)=>p8 g hm c1 c2 c3 c4 c5 c6 i x him EJ
 rw [EK] at hO
 unfold UG.bK at hnk
 rw [EK] at hnk
 have ga:=yl (i:=i) (b:=aq)
 generalize fJ:F k=s' at hi hbk hnk AZ hpt AY
 generalize A0:F (k+1)=s'' at hnk DR
 obtain ⟨num',low',kI,jb,kJ⟩:=s'
 have gR:num'.length=g.n.toNat:=hi.ln
 have gA:low'.length=g.n.toNat:=hi.ll
 have y2:=hbk.len
 simp only [ug] at y2
 simp only at hnk hpt AY
 have A1:=hO (sNL ((List.range g.n.toNat).map fun x=>(ug g).ends x)) (sN num') (sN low') (.sc (.int .i64 (kI:Int))) (sN jb) (sNL kJ)
 have ec:decide (((num'.getD z 0:Nat):Int)=0)=decide (num'.getD z 0=0):=AX
 by_cases hby:some i=aq
 ·rw [if_pos hby] at hnk
  rw [decide_eq_true hby] at ga
  repeat' (first|refine Rn.p ?_|(with_reducible apply And.intro)|((first|(refine hK _ ?_;clear hK K)|with_reducible intro K hK|refine Rs.p ?_|((with_reducible first|apply oP|apply oQ);exact rfl)|(refine cQ hX hC hP (A1) rfl rfl rfl ?_ ?_ ?_ ?_;iterate 3 (focus (simp only [go_sem,simprocAttr,aO,bL,b7,hik,ga,fJ];done))));try simp only [go_sem,simprocAttr,aO,bL,b7,hik,ga,fJ])|((with_reducible refine oD ?_ ?_);kernel_rfl)|((with_reducible intro h);try simp only [go_sem,simprocAttr,aO,bL,b7,hik,ga,fJ] at h)|omega|intro h)
  refine ⟨k+1,by omega, ?_,by omega⟩
  (try simp only []);rw [A0,hnk]
  refine Le.of ?_ ?_<;>simp [go_sem,simprocAttr,aO,bL,b7,hik,ga,fJ]
 rw [if_neg hby] at hnk
 rw [decide_eq_false hby] at ga
 by_cases hz:num'.getD z 0=0
 rotate_left
 ·rw [decide_eq_false hz] at ec
  have vk:¬(⟨num',low',kI,jb,kJ⟩:UG.Sc).nm z=0:=hz
  rw [if_neg vk] at hnk
  have hdl:decide (((num'.getD z 0:Nat):Int)<((num'.getD x 0:Nat):Int))=decide (num'.getD z 0<num'.getD x 0):=decLt
  by_cases wz:num'.getD z 0<num'.getD x 0
  ·rw [decide_eq_true wz] at hdl
   have hlt3:(⟨num',low',kI,jb,kJ⟩:UG.Sc).nm z<(⟨num',low',kI,jb,kJ⟩:UG.Sc).nm x:=wz
   rw [if_pos hlt3] at hnk
   have DS:s''=⟨num',low'.set x (min (low'.getD x 0) (num'.getD z 0)),kI,jb++ [i],kJ⟩:=hnk
   repeat' (first|(show bA _ (.region 16 _ _) _ _;(refine cR hX 10000 6 141 200 rfl rfl rfl (by first|exact .inl rfl|exact .inr rfl) (by decide) (by decide) ?_;simp only [List.set_cons_zero,List.set_cons_succ,go_sem,simprocAttr,aO,bL,b7,hik,ga,fJ,ec,hdl,gR,gA,cG,aH]))|refine Rn.p ?_|(with_reducible apply And.intro)|((first|(refine hK _ ?_;clear hK K)|with_reducible intro K hK|refine Rs.p ?_|((with_reducible first|apply oP|apply oQ);exact rfl)|(refine cQ hX hC hP (A1) rfl rfl rfl ?_ ?_ ?_ ?_;iterate 3 (focus (simp only [go_sem,simprocAttr,aO,bL,b7,hik,ga,fJ,ec,hdl,gR,gA,cG,aH];done))));try simp only [go_sem,simprocAttr,aO,bL,b7,hik,ga,fJ,ec,hdl,gR,gA,cG,aH])|((with_reducible refine oD ?_ ?_);kernel_rfl)|((with_reducible intro h);try simp only [go_sem,simprocAttr,aO,bL,b7,hik,ga,fJ,ec,hdl,gR,gA,cG,aH] at h)|omega|intro h)
   refine ⟨k+1,by omega, ?_,by omega⟩
   rw [A0,DS]
   refine Le.of ?_ ?_<;>simp [go_sem,simprocAttr,aO,bL,b7,hik,ga,fJ,ec,hdl,gR,gA,cG,aH]
   all_goals rfl
  ·rw [decide_eq_false wz] at hdl
   have hlt3:¬(⟨num',low',kI,jb,kJ⟩:UG.Sc).nm z<(⟨num',low',kI,jb,kJ⟩:UG.Sc).nm x:=wz
   rw [if_neg hlt3] at hnk
   repeat' (first|refine Rn.p ?_|(with_reducible apply And.intro)|((first|(refine hK _ ?_;clear hK K)|with_reducible intro K hK|refine Rs.p ?_|((with_reducible first|apply oP|apply oQ);exact rfl)|(refine cQ hX hC hP (A1) rfl rfl rfl ?_ ?_ ?_ ?_;iterate 3 (focus (simp only [go_sem,simprocAttr,aO,bL,b7,hik,ga,fJ,ec,hdl,gR,gA,cG,aH];done))));try simp only [go_sem,simprocAttr,aO,bL,b7,hik,ga,fJ,ec,hdl,gR,gA,cG,aH])|((with_reducible refine oD ?_ ?_);kernel_rfl)|((with_reducible intro h);try simp only [go_sem,simprocAttr,aO,bL,b7,hik,ga,fJ,ec,hdl,gR,gA,cG,aH] at h)|omega|intro h)
   refine ⟨k+1,by omega, ?_,by omega⟩
   (try simp only []);rw [A0,hnk]
   refine Le.of ?_ ?_<;>simp [go_sem,simprocAttr,aO,bL,b7,hik,ga,fJ,ec,hdl,gR,gA,cG,aH]
 rw [decide_eq_true hz] at ec
 have vk:(⟨num',low',kI,jb,kJ⟩:UG.Sc).nm z=0:=hz
 rw [if_pos vk] at hnk
 have DT:=hpt vk
 have hbz:=AY vk
 have hfz:(ug g).gO ⟨num',low',kI,jb++ [i],kJ⟩≤f:=Nat.le_of_lt_succ (Nat.lt_of_lt_of_le AZ hf)
 have hV:=ih ⟨num',low',kI,jb++ [i],kJ⟩ z (some i) (x::P) hfz DT hbz
 have y6:=UG.jE hG dr f hfz DT
 have gW:=UG.uK hG hbz DT y6 (UG.mN hG f _ z (some i) gR BQ vk)
 rw [show xw (some i)=(i:Int) from rfl] at hV
 generalize (ug g).cA dZ f z (some i) ⟨num',low',kI,jb++ [i],kJ⟩=s1 at hV y6 gW hnk
 obtain ⟨jc,bY,oq,ot,qb⟩:=s1
 have iO:jc.length=g.n.toNat:=y6.ln
 have hm2:bY.length=g.n.toNat:=y6.ll
 have Gq:=gW.len
 simp only [ug] at Gq
 have hi1:i∈ot:=by
  obtain ⟨S,B,h1,_⟩:=y6.sb
  simp only at h1
  rw [h1]
  simp
 have cr:jb.map rN++ [[D.sc (.int .i64 (i:Int))]]=(jb++ [i]).map rN:=by simp [rN]
 have bu:(bY.set x (min (bY.getD x 0) (bY.getD z 0))).getD z 0=bY.getD z 0:=by
  rw [UG.cq (by omega),if_neg Gp]
 have jD:(if (⟨jc,bY.set x (min (bY.getD x 0) (bY.getD z 0)),oq,ot,qb⟩:UG.Sc).nm x≤(⟨jc,bY.set x (min (bY.getD x 0) (bY.getD z 0)),oq,ot,qb⟩:UG.Sc).lw z then UG.fq dZ ⟨jc,bY.set x (min (bY.getD x 0) (bY.getD z 0)),oq,ot,qb⟩ i else ⟨jc,bY.set x (min (bY.getD x 0) (bY.getD z 0)),oq,ot,qb⟩)=s'':=hnk.symm
 have cT:(⟨jc,bY.set x (min (bY.getD x 0) (bY.getD z 0)),oq,ot,qb⟩:UG.Sc).nm x=jc.getD x 0:=rfl
 have hlz:(⟨jc,bY.set x (min (bY.getD x 0) (bY.getD z 0)),oq,ot,qb⟩:UG.Sc).lw z=bY.getD z 0:=bu
 rw [cT,hlz] at jD
 have hdc:decide (((jc.getD x 0:Nat):Int)≤((bY.getD z 0:Nat):Int))=decide (jc.getD x 0≤bY.getD z 0):=decLe
 clear hnk
 by_cases hc:jc.getD x 0≤bY.getD z 0
 ·rw [if_pos hc] at jD
  rw [decide_eq_true hc] at hdc
  have DU:=p9 g ⟨jc,bY.set x (min (bY.getD x 0) (bY.getD z 0)),oq,ot,qb⟩ i hi1 (by simp only;omega) (by simp only;omega)
  have hc1:s''.cnt=oq:=by rw [← jD];rfl
  have Gs:s''.num=jc:=by rw [← jD];rfl
  have Gt:s''.low=bY.set x (min (bY.getD x 0) (bY.getD z 0)):=by rw [← jD];rfl
  rw [jD] at DU
  repeat' (first|(show bA _ (.region 16 _ _) _ _;(refine cR hX 10000 6 204 200 rfl rfl rfl (by first|exact .inl rfl|exact .inr rfl) (by decide) (by decide) ?_;simp only [List.set_cons_zero,List.set_cons_succ,go_sem,simprocAttr,aO,bL,b7,hik,ga,fJ,ec,hdc,gR,gA,iO,hm2,cG,aH,cr,bu]);(refine cR hX 10000 7 205 201 rfl rfl rfl (by first|exact .inl rfl|exact .inr rfl) (by decide) (by decide) ?_;simp only [List.set_cons_zero,List.set_cons_succ,go_sem,simprocAttr,aO,bL,b7,hik,ga,fJ,ec,hdc,gR,gA,iO,hm2,cG,aH,cr,bu]))|refine Rn.p ?_|(with_reducible apply And.intro)|((first|(refine hK _ ?_;clear hK K)|with_reducible intro K hK|refine Rs.p ?_|((with_reducible first|apply oP|apply oQ);exact rfl)|(refine cQ hX hC hP (A1) rfl rfl rfl ?_ ?_ ?_ ?_;iterate 3 (focus (simp only [go_sem,simprocAttr,aO,bL,b7,hik,ga,fJ,ec,hdc,gR,gA,iO,hm2,cG,aH,cr,bu];done)))|(refine bS hX hC hP [(10000,10000),(10001,10001),(10002,10002),(10003,72),(10004,201),(10005,202),(10006,203)] (hV) rfl rfl rfl ?_ ?_ ?_ ?_ ?_ ?_ ?_ ?_ ?_ ?_ ?_ ?_ ?_ ?_;(focus (simp only [go_sem,simprocAttr,aO,bL,b7,hik,ga,fJ,ec,hdc,gR,gA,iO,hm2,cG,aH,cr,bu];done));(iterate 12 (focus (simp [go_sem,simprocAttr,aO,bL,b7,hik,ga,fJ,ec,hdc,gR,gA,iO,hm2,cG,aH,cr,bu];done)));try simp only [List.map_cons,List.map_nil])|(refine bS hX hC hP [(10000,10000),(10001,10001),(10002,10002),(10003,202),(10004,203),(10005,204),(10006,205)] (DU) rfl rfl rfl ?_ ?_ ?_ ?_ ?_ ?_ ?_ ?_ ?_ ?_ ?_ ?_ ?_ ?_;(focus (simp only [go_sem,simprocAttr,aO,bL,b7,hik,ga,fJ,ec,hdc,gR,gA,iO,hm2,cG,aH,cr,bu];done));(iterate 12 (focus (simp [go_sem,simprocAttr,aO,bL,b7,hik,ga,fJ,ec,hdc,gR,gA,iO,hm2,cG,aH,cr,bu];done)));try simp only [List.map_cons,List.map_nil]));try simp only [go_sem,simprocAttr,aO,bL,b7,hik,ga,fJ,ec,hdc,gR,gA,iO,hm2,cG,aH,cr,bu])|((with_reducible refine oD ?_ ?_);kernel_rfl)|((with_reducible intro h);try simp only [go_sem,simprocAttr,aO,bL,b7,hik,ga,fJ,ec,hdc,gR,gA,iO,hm2,cG,aH,cr,bu] at h)|omega|intro h)
  refine ⟨k+1,by omega, ?_,by omega⟩
  rw [A0]
  refine Le.of ?_ ?_<;>simp [go_sem,simprocAttr,aO,bL,b7,hik,ga,fJ,ec,hdc,gR,gA,iO,hm2,cG,aH,cr,bu,hc1,Gs,Gt]
 ·rw [if_neg hc] at jD
  rw [decide_eq_false hc] at hdc
  repeat' (first|(show bA _ (.region 16 _ _) _ _;(refine cR hX 10000 6 202 200 rfl rfl rfl (by first|exact .inl rfl|exact .inr rfl) (by decide) (by decide) ?_;simp only [List.set_cons_zero,List.set_cons_succ,go_sem,simprocAttr,aO,bL,b7,hik,ga,fJ,ec,hdc,gR,gA,iO,hm2,cG,aH,cr,bu]);(refine cR hX 10000 7 203 201 rfl rfl rfl (by first|exact .inl rfl|exact .inr rfl) (by decide) (by decide) ?_;simp only [List.set_cons_zero,List.set_cons_succ,go_sem,simprocAttr,aO,bL,b7,hik,ga,fJ,ec,hdc,gR,gA,iO,hm2,cG,aH,cr,bu]))|refine Rn.p ?_|(with_reducible apply And.intro)|((first|(refine hK _ ?_;clear hK K)|with_reducible intro K hK|refine Rs.p ?_|((with_reducible first|apply oP|apply oQ);exact rfl)|(refine cQ hX hC hP (A1) rfl rfl rfl ?_ ?_ ?_ ?_;iterate 3 (focus (simp only [go_sem,simprocAttr,aO,bL,b7,hik,ga,fJ,ec,hdc,gR,gA,iO,hm2,cG,aH,cr,bu];done)))|(refine bS hX hC hP [(10000,10000),(10001,10001),(10002,10002),(10003,72),(10004,201),(10005,202),(10006,203)] (hV) rfl rfl rfl ?_ ?_ ?_ ?_ ?_ ?_ ?_ ?_ ?_ ?_ ?_ ?_ ?_ ?_;(focus (simp only [go_sem,simprocAttr,aO,bL,b7,hik,ga,fJ,ec,hdc,gR,gA,iO,hm2,cG,aH,cr,bu];done));(iterate 12 (focus (simp [go_sem,simprocAttr,aO,bL,b7,hik,ga,fJ,ec,hdc,gR,gA,iO,hm2,cG,aH,cr,bu];done)));try simp only [List.map_cons,List.map_nil])|(refine bS hX hC hP [(10000,10000),(10001,10001),(10002,10002),(10003,202),(10004,203),(10005,204),(10006,205)] (DU) rfl rfl rfl ?_ ?_ ?_ ?_ ?_ ?_ ?_ ?_ ?_ ?_ ?_ ?_ ?_ ?_;(focus (simp only [go_sem,simprocAttr,aO,bL,b7,hik,ga,fJ,ec,hdc,gR,gA,iO,hm2,cG,aH,cr,bu];done));(iterate 12 (focus (simp [go_sem,simprocAttr,aO,bL,b7,hik,ga,fJ,ec,hdc,gR,gA,iO,hm2,cG,aH,cr,bu];done)));try simp only [List.map_cons,List.map_nil]));try simp only [go_sem,simprocAttr,aO,bL,b7,hik,ga,fJ,ec,hdc,gR,gA,iO,hm2,cG,aH,cr,bu])|((with_reducible refine oD ?_ ?_);kernel_rfl)|((with_reducible intro h);try simp only [go_sem,simprocAttr,aO,bL,b7,hik,ga,fJ,ec,hdc,gR,gA,iO,hm2,cG,aH,cr,bu] at h)|omega|intro h)
  refine ⟨k+1,by omega, ?_,by omega⟩
  rw [A0, ← jD]
  refine Le.of ?_ ?_<;>simp [go_sem,simprocAttr,aO,bL,b7,hik,ga,fJ,ec,hdc,gR,gA,iO,hm2,cG,aH,cr,bu]
theorem kK:∀(f:Nat) (s:UG.Sc) (x:Nat) (aq:Option Nat) (P:List Nat),(ug g).gO s≤f→(ug g).Pre s x aq P→(ug g).Bd s→
 Spec Try.prog 40 (Args [.ptr 10000 0,eN x,eN (xw aq)]) (aO g s 10003 10004) (.tup []) (aO g ((ug g).cA dZ f x aq s) 10005 10006)
 |0,s,x,aq,P,hf,hp,hb=>by
  exfalso
  have h1:(ug g).gO s≠0:=by
   unfold UG.gO
   intro h
   rw [List.countP_eq_zero] at h
   exact h x (List.mem_range.2 hp.hy) (decide_eq_true hp.un)
  omega
 |f+1,s,x,aq,P,hf,hp,hb=>qa g hm hl f (kK f) s x aq P hf hp hb
end
end Go.Ab
