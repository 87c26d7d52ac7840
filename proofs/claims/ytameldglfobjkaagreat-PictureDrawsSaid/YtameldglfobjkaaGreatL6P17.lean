/- A part of the proof. -/
import Derived.Test.YtameldglfobjkaaGreatL6P16
set_option linter.unusedSimpArgs false
set_option linter.unusedVariables false
section
set_option maxHeartbeats 4000000
set_option maxRecDepth 10000
namespace Go.Ab
attribute [local congr] ACall.congr gd.congr Ny.congr vcOps.congr
open Go.Proofs
instance (p:Pt):Decidable (bC p):=by unfold bC;infer_instance
theorem sD(p:Pt):nF p= !decide (bC p):=by
 by_cases h:bC p
 ·rw[ac6 h]
  simp only[bC]at h
  simp only[nF,Int.max_def,Int.min_def,aet,aep,adL]
  split<;>omega
 ·rw[ac5 h]
  simp only[bC]at h
  simp only[nF,Int.max_def,Int.min_def,afs,adK,adb]
  split<;>omega
theorem KB(ps:List Pt):(!ps.any nF)=decide (∀p∈ps,bC p):=by
 rw[ad0];simp[sD]
theorem PB(ps:List Pt)(hl:ps.length<=9223372036854775806)(h:∀p∈ps,bC p):Spec Tryz.prog 115 (Args [.d (.sl 2 (ps.map rP))]) [] (eB true) []:=by
 have:=sC ps hl
 rw[KB,ac6 h]at this
 exact this
theorem KC(ps:List Pt)(hl:ps.length<=9223372036854775806)(h:¬∀p∈ps,bC p):Spec Tryz.prog 115 (Args [.d (.sl 2 (ps.map rP))]) [] (eB false) []:=by
 have:=sC ps hl
 rw[KB,ac5 h]at this
 exact this
theorem SA(a b c:Pt)(ha:bC a)(hb:bC b)(hc:bC c):Spec Tryz.prog 115 (Args [.d (.sl 2 ([a,b,c].map rP))]) [] (eB true) []:=PB _ (by simp) (by simp[ha,hb,hc])
theorem SB(a b c d:Pt)(ha:bC a)(hb:bC b)(hc:bC c)(hd:bC d):Spec Tryz.prog 115 (Args [.d (.sl 2 ([a,b,c,d].map rP))]) [] (eB true) []:=PB _ (by simp) (by simp[ha,hb,hc,hd])
theorem PC(a b c:Pt)(h:¬(bC a/\bC b/\bC c)):Spec Tryz.prog 115 (Args [.d (.sl 2 ([a,b,c].map rP))]) [] (eB false) []:=KC _ (by simp) (by simpa using h)
theorem PD(a b c d:Pt)(h:¬(bC a/\bC b/\bC c/\bC d)):Spec Tryz.prog 115 (Args [.d (.sl 2 ([a,b,c,d].map rP))]) [] (eB false) []:=KC _ (by simp) (by simpa using h)
def abS(a b c:Pt):Int:=if bC a/\bC b/\bC c then sd a b c else 0
def nG(a b c:Pt):Bool:=decide (bC a/\bC b/\bC c)&&iz a b c
theorem Eu(a b c:Pt):Spec Tryz.prog 126 (Args [eP a,eP b,eP c]) [] (eB (nG a b c)) []:=by
 by_cases hin:bC a/\bC b/\bC c
 ·obtain⟨ha,hb,hc⟩:=hin
  (refine T.h [] [] [.t 6] Tryz.func126 rfl rfl (by kernel_rfl) fun X hX hP hC aA bB=> ?_)
  repeat' (first|refine Rn.p ?_|((first|refine Rs.p ?_|with_reducible intro K hK|(refine hK _ ?_;clear hK K)|refine aa (vW _ _ _ (by assumption) (by assumption) (by assumption)) rfl ?_|(refine dN (SA a b c (by assumption) (by assumption) (by assumption)) ?_ rfl ?_;(focus(simp only[go_sem,simprocAttr];done))));try simp only[go_sem,simprocAttr]))
  all_goals simp[nG,ha,hb,hc]
 ·(refine T.h [] [] [.t 6] Tryz.func126 rfl rfl (by kernel_rfl) fun X hX hP hC aA bB=> ?_)
  repeat' (first|refine Rn.p ?_|((first|refine Rs.p ?_|with_reducible intro K hK|(refine hK _ ?_;clear hK K)|(refine dN (PC a b c (by assumption)) ?_ rfl ?_;(focus(simp only[go_sem,simprocAttr];done))));try simp only[go_sem,simprocAttr]))
  all_goals rw[nG,ac5 hin];rfl
theorem Vo{p:Prop}[Decidable p]{b:Bool}(h:b=true↔p):b=decide p:=by
 by_cases hp:p
 ·rw[ac6 hp];exact h.2 hp
 ·rw[ac5 hp]
  cases b with
  |true=>exact absurd (h.1 rfl) hp
  |false=>rfl
theorem pL(p:Pt):Spec Tryz.prog 108 (Args [eP p]) [] (eB (decide (bC p))) []:=by
 (refine T.h [] [] [.t 2] Tryz.func108 rfl rfl (by kernel_rfl) fun X hX hP hC aA bB=> ?_)
 repeat' (first|refine Rn.p ?_|((first|refine Rs.p ?_|with_reducible intro K hK|(refine hK _ ?_;clear hK K));try simp only[go_sem,simprocAttr])|with_reducible (first|apply And.intro|(intro h;try simp only[go_sem,simprocAttr]at h)))
 all_goals(refine Vo ?_;simp only[bC,adb,aec,false_iff];omega)
theorem iG(p:Pt)(h:bC p):Spec Tryz.prog 108 (Args [eP p]) [] (eB true) []:=by
 have:=pL p;rwa [ac6 h]at this
theorem fU(p:Pt)(h:¬bC p):Spec Tryz.prog 108 (Args [eP p]) [] (eB false) []:=by
 have:=pL p;rwa [ac5 h]at this
theorem Mx(n:Int):Spec Tryz.prog 158 (Args [eN n]) [] (eN (jh n 0)) []:=by
 (refine T.h [] [] [.t 2] Tryz.func158 rfl rfl (by kernel_rfl) fun X hX hP hC aA bB=> ?_)
 repeat' (first|refine Rn.p ?_|((first|refine Rs.p ?_|with_reducible intro K hK|(refine hK _ ?_;clear hK K));try simp only[go_sem,simprocAttr])|with_reducible (first|apply And.intro|(intro h;try simp only[go_sem,simprocAttr]at h)))
 all_goals(unfold jh;repeat' split)<;>omega
def ai(a b c:Pt):Int:=a.1*b.2 - a.2*b.1+b.1*c.2 - b.2*c.1+c.1*a.2 - c.2*a.1
theorem C9(a b c:Pt)(ha:bC a)(hb:bC b)(hc:bC c):Spec Tryz.prog 157 (Args [eP a,eP b,eP c]) [] (eN (ai a b c)) []:=by
 (refine T.h [] [] [.t 6] Tryz.func157 rfl rfl (by kernel_rfl) fun X hX hP hC aA bB=> ?_)
 have m1:=qu ha.1 hb.2
 have m2:=qu ha.2 hb.1
 have m3:=qu hb.1 hc.2
 have m4:=qu hb.2 hc.1
 have m5:=qu hc.1 ha.2
 have m6:=qu hc.2 ha.1
 repeat' (first|refine Rn.p ?_|((first|refine Rs.p ?_|with_reducible intro K hK|(refine hK _ ?_;clear hK K));try simp only[go_sem,simprocAttr])|with_reducible (apply And.intro)|omega)
 all_goals rfl
def an(a b p:Pt):Int:=(p.1 - a.1)*(b.1 - a.1)+(p.2 - a.2)*(b.2 - a.2)
theorem IL(a b c:Pt)(ha:bC a)(hb:bC b)(hc:bC c):Spec Tryz.prog 159 (Args [eP a,eP b,eP c]) [] (eN (an a b c)) []:=by
 (refine T.h [] [] [.t 6] Tryz.func159 rfl rfl (by kernel_rfl) fun X hX hP hC aA bB=> ?_)
 simp only[bC]at ha hb hc
 have m1:=qu (x:=c.1 - a.1) (y:=b.1 - a.1) (m:=524288) (n:=524288) (by omega) (by omega)
 have m2:=qu (x:=c.2 - a.2) (y:=b.2 - a.2) (m:=524288) (n:=524288) (by omega) (by omega)
 repeat' (first|refine Rn.p ?_|((first|refine Rs.p ?_|with_reducible intro K hK|(refine hK _ ?_;clear hK K));try simp only[go_sem,simprocAttr])|with_reducible (apply And.intro)|omega)
 all_goals rfl
def Gp(a b c:Pt):Int:=if bC a/\bC b/\bC c then jh (ai a b c) 0 else 0
def nH(a b c:Pt):Bool:=decide (bC a/\bC b/\bC c)&&(decide (ai a b c=0)&&decide ((a.1 - c.1)*(b.1 - c.1)+(a.2 - c.2)*(b.2 - c.2)<=0))
theorem Bc(a b c:Pt):Spec Tryz.prog 109 (Args [eP a,eP b,eP c]) [] (eB (nH a b c)) []:=by
 by_cases ha:bC a
 ·by_cases hb:bC b
  ·by_cases hc:bC c
   ·(refine T.h [] [] [.t 6] Tryz.func109 rfl rfl (by kernel_rfl) fun X hX hP hC aA bB=> ?_)
    have i1:=ha
    have i2:=hb
    have i3:=hc
    simp only[bC]at i1 i2 i3
    have m1:=qu (x:=a.1 - c.1) (y:=b.1 - c.1) (m:=524288) (n:=524288) (by omega) (by omega)
    have m2:=qu (x:=a.2 - c.2) (y:=b.2 - c.2) (m:=524288) (n:=524288) (by omega) (by omega)
    repeat' (first|refine Rn.p ?_|((first|refine Rs.p ?_|with_reducible intro K hK|(refine hK _ ?_;clear hK K)|refine aa (iG _ (by assumption)) rfl ?_|refine aa (C9 _ _ _ (by assumption) (by assumption) (by assumption)) rfl ?_);try simp only[go_sem,simprocAttr])|with_reducible (first|apply And.intro|(intro h;try simp only[go_sem,simprocAttr]at h))|omega)
    all_goals simp_all[nH]
   ·(refine T.h [] [] [.t 6] Tryz.func109 rfl rfl (by kernel_rfl) fun X hX hP hC aA bB=> ?_)
    repeat' (first|refine Rn.p ?_|((first|refine Rs.p ?_|with_reducible intro K hK|(refine hK _ ?_;clear hK K)|refine aa (iG _ (by assumption)) rfl ?_|refine aa (fU _ (by assumption)) rfl ?_);try simp only[go_sem,simprocAttr]))
    all_goals simp[nH,ha,hb,hc]
  ·(refine T.h [] [] [.t 6] Tryz.func109 rfl rfl (by kernel_rfl) fun X hX hP hC aA bB=> ?_)
   repeat' (first|refine Rn.p ?_|((first|refine Rs.p ?_|with_reducible intro K hK|(refine hK _ ?_;clear hK K)|refine aa (iG _ (by assumption)) rfl ?_|refine aa (fU _ (by assumption)) rfl ?_);try simp only[go_sem,simprocAttr]))
   all_goals simp[nH,ha,hb]
 ·(refine T.h [] [] [.t 6] Tryz.func109 rfl rfl (by kernel_rfl) fun X hX hP hC aA bB=> ?_)
  repeat' (first|refine Rn.p ?_|((first|refine Rs.p ?_|with_reducible intro K hK|(refine hK _ ?_;clear hK K)|refine aa (fU _ (by assumption)) rfl ?_);try simp only[go_sem,simprocAttr]))
  all_goals simp[nH,ha]
def Uc:OT:=(.br 0 (.br 1 (.br 2 (.br 3 (.br 4 (.br 5 (.br 6 .nil .nil) .nil) .nil) (.br 4 (.br 3 (.br 5 (.br 6 .nil .nil) .nil) (.br 5 (.br 3 (.br 6 .nil .nil) .nil) .nil)) .nil)) (.br 4 (.br 2 (.br 3 (.br 5 (.br 6 .nil .nil) .nil) (.br 5 (.br 3 (.br 6 .nil .nil) .nil) .nil)) (.br 5 (.br 2 (.br 3 (.br 6 .nil .nil) .nil) .nil) .nil)) .nil)) .nil) (.br 1 (.br 0 (.br 2 (.br 3 (.br 4 (.br 5 (.br 6 .nil .nil) .nil) .nil) (.br 4 (.br 3 (.br 5 (.br 6 .nil .nil) .nil) (.br 5 (.br 3 (.br 6 .nil .nil) .nil) .nil)) .nil)) (.br 4 (.br 2 (.br 3 (.br 5 (.br 6 .nil .nil) .nil) (.br 5 (.br 3 (.br 6 .nil .nil) .nil) .nil)) (.br 5 (.br 2 (.br 3 (.br 6 .nil .nil) .nil) .nil) .nil)) .nil)) .nil) .nil))
theorem qS(n:Int): -1<=jh n 0/\jh n 0<=1:=by unfold jh;repeat' split<;>omega
def jk(a b c d:Pt):Int:=
 if bC a/\bC b/\bC c/\bC d then
  if a=b then(if nH c d a=true then 1 else 0)
  else if c=d then(if nH a b c=true then 1 else 0)
  else if jh (ai a b c) 0=0/\jh (ai a b d) 0=0 then
   let lo:=max (an a b a) (min (an a b c) (an a b d))
   let hi:=min (an a b b) (max (an a b c) (an a b d))
   if hi<lo then 0 else if lo=hi then 1 else 2
  else if jh (ai a b c) 0*jh (ai a b d) 0<=0/\jh (ai c d a) 0*jh (ai c d b) 0<=0 then 1 else 0
 else 0
theorem Ev(a b c d:Pt):Spec Tryz.prog 110 (Args [eP a,eP b,eP c,eP d]) [] (eN (jk a b c d)) []:=by
 by_cases ha:bC a
 ·by_cases hb:bC b
  ·by_cases hc:bC c
   ·by_cases hd:bC d
    ·(refine T.h [] [] [.t 8] Tryz.func110 rfl rfl (by kernel_rfl) fun X hX hP hC aA bB=> ?_)
     have m1:=qu (qS (ai a b c)) (qS (ai a b d))
     have m2:=qu (qS (ai c d a)) (qS (ai c d b))
     repeat' (first|refine Rn.p ?_|((first|refine Rs.p ?_|with_reducible intro K hK|(refine hK _ ?_;clear hK K)|refine aa (iG _ (by assumption)) rfl ?_|refine aa (Mx _) rfl ?_|refine aa (C9 _ _ _ (by assumption) (by assumption) (by assumption)) rfl ?_|refine aa (IL _ _ _ (by assumption) (by assumption) (by assumption)) rfl ?_|refine aa (Bc _ _ _) rfl ?_);try simp only[go_sem,simprocAttr])|with_reducible (first|apply And.intro|refine oD (by kernel_rfl) ?_|(intro h;try simp only[go_sem,simprocAttr]at h))|omega)
     all_goals simp only[jk,ha,hb,hc,hd,and_self,if_true,Prod.ext_iff]
     all_goals clear hX aA hP hC bB X
     all_goals grind
    ·(refine T.h [] [] [.t 8] Tryz.func110 rfl rfl (by kernel_rfl) fun X hX hP hC aA bB=> ?_)
     repeat' (first|refine Rn.p ?_|((first|refine Rs.p ?_|with_reducible intro K hK|(refine hK _ ?_;clear hK K)|refine aa (iG _ (by assumption)) rfl ?_|refine aa (fU _ (by assumption)) rfl ?_);try simp only[go_sem,simprocAttr]))
     all_goals simp[jk,hd]
   ·(refine T.h [] [] [.t 8] Tryz.func110 rfl rfl (by kernel_rfl) fun X hX hP hC aA bB=> ?_)
    repeat' (first|refine Rn.p ?_|((first|refine Rs.p ?_|with_reducible intro K hK|(refine hK _ ?_;clear hK K)|refine aa (iG _ (by assumption)) rfl ?_|refine aa (fU _ (by assumption)) rfl ?_);try simp only[go_sem,simprocAttr]))
    all_goals simp[jk,hc]
  ·(refine T.h [] [] [.t 8] Tryz.func110 rfl rfl (by kernel_rfl) fun X hX hP hC aA bB=> ?_)
   repeat' (first|refine Rn.p ?_|((first|refine Rs.p ?_|with_reducible intro K hK|(refine hK _ ?_;clear hK K)|refine aa (iG _ (by assumption)) rfl ?_|refine aa (fU _ (by assumption)) rfl ?_);try simp only[go_sem,simprocAttr]))
   all_goals simp[jk,hb]
 ·(refine T.h [] [] [.t 8] Tryz.func110 rfl rfl (by kernel_rfl) fun X hX hP hC aA bB=> ?_)
  repeat' (first|refine Rn.p ?_|((first|refine Rs.p ?_|with_reducible intro K hK|(refine hK _ ?_;clear hK K)|refine aa (fU _ (by assumption)) rfl ?_);try simp only[go_sem,simprocAttr]))
  all_goals simp[jk,ha]
end Go.Ab
end
section
set_option maxHeartbeats 4000000
set_option maxRecDepth 10000
namespace Go.Ab
attribute [local congr] ACall.congr gd.congr Ny.congr vcOps.congr
open Go.Proofs
theorem mval_touch(es:List (List Int × Int))(k:List Int):gO (eH es k) k=gO es k:=by
 unfold eH
 cases h:cA es k with
 |some i=>rfl
 |none=>
  have hn:=lR h
  have:cA (es++ [(k,0)]) k=some es.length:=by
   unfold cA
   rw[aem]
   refine⟨by simp,by simp,fun j hj=> ?_⟩
   rw[List.getElem_append_left hj]
   have:=hn es[j] (ad2 hj)
   simpa using fun e=>this e.symm
  simp[gO,h,this]
theorem sF(es:List (List Int × Int))(k:List Int):jF es k<(eH es k).length:=by
 unfold jF eH
 cases h:cA es k with
 |some i=>
  obtain⟨p,hp,_⟩:=fQ h
  exact(adh.1 hp).1
 |none=>simp
def bump(es:List (List Int × Int))(k:List Int):List (List Int × Int):=mL (eH es k) (jF es k) (gO es k+1)
theorem My(es:List (List Int × Int))(i:Nat)(v:Int):(mL es i v).map (·.1)=es.map (·.1):=by
 apply adY
 intro j
 rw[adm,adm]
 unfold mL
 rw[aff]
 split<;>cases es[j]? <;>rfl
def CE(p:Pt)(ks:List (List Int)):List (List Int):=if [p.1,p.2]∈ks then ks else ks++ [[p.1,p.2]]
theorem sG(es:List (List Int × Int))(p:Pt):(bump es [p.1,p.2]).map (·.1)=CE p (es.map (·.1)):=by
 unfold bump CE
 rw[My]
 unfold eH
 cases h:cA es [p.1,p.2]with
 |some i=>
  obtain⟨q,hq,hk⟩:=fQ h
  have: [p.1,p.2]∈es.map (·.1):=ada.2 ⟨q,adM hq,hk⟩
  rw[ac9 this]
 |none=>
  have: [p.1,p.2]∉es.map (·.1):=fun hm=>by
   obtain⟨q,hq,hk⟩:=ada.1 hm
   exact lR h q hq hk
  rw[ac7 this];simp
def BE(n:Int)(es:List (List Int × Int)):Prop:=∀p∈es,0<=p.2/\p.2<=n
theorem Bd{n:Int}(hn:0<=n){es:List (List Int × Int)}(h:BE n es)(k:List Int):0<=gO es k/\gO es k<=n:=by
 unfold gO
 cases hf:cA es k with
 |none=>simp[hn]
 |some i=>
  obtain⟨p,hp,_⟩:=fQ hf
  simp only[hp,Option.map_some,Option.getD_some]
  exact h p (adM hp)
theorem Ew{n:Int}(hn:0<=n){es:List (List Int × Int)}(h:BE n es)(k:List Int):BE (n+1) (bump es k):=by
 intro p hp
 have hv:=Bd hn h k
 have ht:BE n (eH es k):=by
  unfold eH
  split
  ·exact h
  ·intro q hq
   rcases ac8.1 hq with hq|hq
   ·exact h q hq
   ·simp at hq;subst hq;simp[hn]
 obtain⟨j,hj⟩:=aei.1 hp
 unfold bump mL at hj
 rw[aff]at hj
 split at hj
 ·simp only[Option.map_eq_map,ad9]at hj
  obtain⟨q,hq,rfl⟩:=hj
  constructor<;>simp only<;>omega
 ·have:=ht p (adM (by simpa using hj))
  omega
end Go.Ab
end
section
set_option maxHeartbeats 4000000
set_option maxRecDepth 10000
namespace Go.Ab
attribute [local congr] ACall.congr gd.congr Ny.congr vcOps.congr
open Go.Proofs
attribute [go_sem] mval_touch
def K1(a _b c d:Pt):List (List Int):=if iz c d a=true then CE a [] else []
def K2(a b c d:Pt):List (List Int):=if iz c d b=true then CE b (K1 a b c d) else K1 a b c d
def K3(a b c d:Pt):List (List Int):=if iz a b c=true then CE c (K2 a b c d) else K2 a b c d
def K4(a b c d:Pt):List (List Int):=if iz a b d=true then CE d (K3 a b c d) else K3 a b c d
def fF(a b c d:Pt):Int:=
 if bC a/\bC b/\bC c/\bC d then
  if 0<(K4 a b c d).length then min ((K4 a b c d).length:Int) 2
  else if sd a b c*sd a b d<0/\sd c d a*sd c d b<0 then 1 else 0
 else 0
def RS(A B C:List (List Int))(p:Nat × List (List Int × Int))(n:Int):Prop:=
 (p.1=0/\p.2.map (·.1)=A/\BE n p.2)\/(p.1=1/\p.2.map (·.1)=B/\BE (n+1) p.2)\/(p.1=2/\p.2.map (·.1)=C/\BE (n+2) p.2)
def bx(p:Pt):AObj:= .box [.d (.sc (.int .i64 p.1)), .d (.sc (.int .i64 p.2))]
attribute [go_sem] bx
def st1(a b c d:Pt)(i:Nat × List (List Int × Int)):ASt:=
 ⟨[(9, .mref 21),(4, .ptr 4 0),(5, .ptr 5 0),(6, .ptr 6 0),(7, .ptr 7 0),(24, .agg [eN a.1,eN a.2,eN b.1,eN b.2]),(25,eN i.1)],
   [(4,bx a),(5,bx b),(6,bx c),(7,bx d),(21, .mp 2 i.2)]⟩
def st2(a b c d:Pt)(i:Nat × List (List Int × Int)):ASt:=
 ⟨[(9, .mref 21),(4, .ptr 4 0),(5, .ptr 5 0),(6, .ptr 6 0),(7, .ptr 7 0),(41, .agg [eN c.1,eN c.2,eN d.1,eN d.2]),(42,eN i.1)],
   [(4,bx a),(5,bx b),(6,bx c),(7,bx d),(21, .mp 2 i.2)]⟩
theorem SC(a b c d:Pt)(ha:bC a)(hb:bC b)(hc:bC c)(hd:bC d):Spec Tryz.prog 124 (Args [eP a,eP b,eP c,eP d]) [] (eN (fF a b c d)) []:=by
 (refine T.h [] [] [.t 8] Tryz.func124 rfl rfl (by kernel_rfl) fun X hX hP hC aA bB=> ?_)
 repeat' (first|refine Rn.p ?_|((first|refine Rs.p ?_|with_reducible intro K hK|(refine hK _ ?_;clear hK K)|(refine dN (SB a b c d (by assumption) (by assumption) (by assumption) (by assumption)) ?_ rfl ?_;(focus(simp only[go_sem,simprocAttr];done))));try simp only[go_sem,simprocAttr]))
 refine ag (fun i:Nat × List (List Int × Int)=>RS [] (K1 a b c d) (K2 a b c d) i 0) (st1 a b c d) (fun i=>2 - i.1) (0, []) (.inl ⟨rfl,rfl,by simp[BE]⟩) ?_ ?_
 ·refine Le.of ?_ ?_<;>simp[go_sem,simprocAttr,st1]
 rintro⟨k,es⟩ (⟨hk,hks,j9⟩|⟨hk,hks,j9⟩|⟨hk,hks,j9⟩)<;>simp only at hk hks j9<;>subst hk<;>simp only[st1]
 ·have hv:=Bd (by omega) j9 [a.1,a.2]
  have hs:=sF es [a.1,a.2]
  have hb2:=Ew (by omega) j9 [a.1,a.2]
  have hk2:=sG es a
  repeat' (first|((with_reducible refine vO hX hC aA Uc (by kernel_rfl) ?_);simp only[Uc])|refine Rn.p ?_|((first|refine Rs.p ?_|with_reducible intro K hK|(refine hK _ ?_;clear hK K)|refine aa (vW _ _ _ (by assumption) (by assumption) (by assumption)) rfl ?_);try simp only[go_sem,simprocAttr])|with_reducible (first|apply And.intro|(intro h;try simp only[go_sem,simprocAttr]at h))|omega)
  all_goals first
   |(refine⟨(1,bump es [a.1,a.2]), .inr (.inl ⟨rfl,by rw[hk2,hks];simp only[K1,ac9 h],by simpa using hb2⟩),Le.of ?_ ?_,by simp⟩<;>simp[go_sem,simprocAttr,bump];done)
   |(refine⟨(1,es), .inr (.inl ⟨rfl,by rw[hks];simp[K1,h],fun p hp=>by have:=j9 p hp;omega⟩),Le.of ?_ ?_,by simp⟩<;>simp[go_sem,simprocAttr];done)
 ·have hv:=Bd (by omega) j9 [b.1,b.2]
  have hs:=sF es [b.1,b.2]
  have hb2:=Ew (by omega) j9 [b.1,b.2]
  have hk2:=sG es b
  repeat' (first|((with_reducible refine vO hX hC aA Uc (by kernel_rfl) ?_);simp only[Uc])|refine Rn.p ?_|((first|refine Rs.p ?_|with_reducible intro K hK|(refine hK _ ?_;clear hK K)|refine aa (vW _ _ _ (by assumption) (by assumption) (by assumption)) rfl ?_);try simp only[go_sem,simprocAttr])|with_reducible (first|apply And.intro|(intro h;try simp only[go_sem,simprocAttr]at h))|omega)
  all_goals first
   |(refine⟨(2,bump es [b.1,b.2]), .inr (.inr ⟨rfl,by rw[hk2,hks];simp only[K2,ac9 h],by simpa using hb2⟩),Le.of ?_ ?_,by simp⟩<;>simp[go_sem,simprocAttr,bump];done)
   |(refine⟨(2,es), .inr (.inr ⟨rfl,by rw[hks];simp[K2,h],fun p hp=>by have:=j9 p hp;omega⟩),Le.of ?_ ?_,by simp⟩<;>simp[go_sem,simprocAttr];done)
 ·repeat' (first|refine Rn.p ?_|((first|refine Rs.p ?_|with_reducible intro K hK|(refine hK _ ?_;clear hK K));try simp only[go_sem,simprocAttr]))
  refine ag (fun i:Nat × List (List Int × Int)=>RS (K2 a b c d) (K3 a b c d) (K4 a b c d) i 2) (st2 a b c d) (fun i=>2 - i.1) (0,es) (.inl ⟨rfl,hks,by simpa using j9⟩) ?_ ?_
  ·refine Le.of ?_ ?_<;>simp[go_sem,simprocAttr,st2]
  clear hks j9 es
  rintro⟨k,es⟩ (⟨hk,hks,j9⟩|⟨hk,hks,j9⟩|⟨hk,hks,j9⟩)<;>simp only at hk hks j9<;>subst hk<;>simp only[st2]
  ·have hv:=Bd (by omega) j9 [c.1,c.2]
   have hs:=sF es [c.1,c.2]
   have hb2:=Ew (by omega) j9 [c.1,c.2]
   have hk2:=sG es c
   repeat' (first|((with_reducible refine vO hX hC aA Uc (by kernel_rfl) ?_);simp only[Uc])|refine Rn.p ?_|((first|refine Rs.p ?_|with_reducible intro K hK|(refine hK _ ?_;clear hK K)|refine aa (vW _ _ _ (by assumption) (by assumption) (by assumption)) rfl ?_);try simp only[go_sem,simprocAttr])|with_reducible (first|apply And.intro|(intro h;try simp only[go_sem,simprocAttr]at h))|omega)
   all_goals first
    |(refine⟨(1,bump es [c.1,c.2]), .inr (.inl ⟨rfl,by rw[hk2,hks];simp only[K3,ac9 h],by simpa using hb2⟩),Le.of ?_ ?_,by simp⟩<;>simp[go_sem,simprocAttr,bump];done)
    |(refine⟨(1,es), .inr (.inl ⟨rfl,by rw[hks];simp[K3,h],fun p hp=>by have:=j9 p hp;omega⟩),Le.of ?_ ?_,by simp⟩<;>simp[go_sem,simprocAttr];done)
  ·have hv:=Bd (by omega) j9 [d.1,d.2]
   have hs:=sF es [d.1,d.2]
   have hb2:=Ew (by omega) j9 [d.1,d.2]
   have hk2:=sG es d
   repeat' (first|((with_reducible refine vO hX hC aA Uc (by kernel_rfl) ?_);simp only[Uc])|refine Rn.p ?_|((first|refine Rs.p ?_|with_reducible intro K hK|(refine hK _ ?_;clear hK K)|refine aa (vW _ _ _ (by assumption) (by assumption) (by assumption)) rfl ?_);try simp only[go_sem,simprocAttr])|with_reducible (first|apply And.intro|(intro h;try simp only[go_sem,simprocAttr]at h))|omega)
   all_goals first
    |(refine⟨(2,bump es [d.1,d.2]), .inr (.inr ⟨rfl,by rw[hk2,hks];simp only[K4,ac9 h],by simpa using hb2⟩),Le.of ?_ ?_,by simp⟩<;>simp[go_sem,simprocAttr,bump];done)
    |(refine⟨(2,es), .inr (.inr ⟨rfl,by rw[hks];simp[K4,h],fun p hp=>by have:=j9 p hp;omega⟩),Le.of ?_ ?_,by simp⟩<;>simp[go_sem,simprocAttr];done)
  ·have hlen:(es.length:Int)=((K4 a b c d).length:Int):=by rw[<- hks,adn]
   have m1: -(1*1)<=sd a b c*sd a b d/\sd a b c*sd a b d<=1*1:=qu (qS _) (qS _)
   have m2: -(1*1)<=sd c d a*sd c d b/\sd c d a*sd c d b<=1*1:=qu (qS _) (qS _)
   repeat' (first|refine Rn.p ?_|((first|refine Rs.p ?_|with_reducible intro K hK|(refine hK _ ?_;clear hK K)|refine aa (C8 _ _ _ (by assumption) (by assumption) (by assumption)) rfl ?_);try simp only[go_sem,simprocAttr])|with_reducible (first|apply And.intro|refine oD (by kernel_rfl) ?_|(intro h;try simp only[go_sem,simprocAttr]at h))|omega)
   all_goals clear hX aA hP hC bB X hks j9 m1 m2
   all_goals simp only[fF,ha,hb,hc,hd,and_self,if_true, <- hlen]
   all_goals grind
theorem Ex(a b c:Pt):ai a b c=tm a b a c:=by unfold ai tm;grind
theorem sH(n:Int):jh n 0=0↔n=0:=by unfold jh;split<;>(try split)<;>omega
theorem yW{u v:Int} :(min u v<=0/\0<=max u v)↔u*v<=0:=by
 rcases afy u 0 with hu|hu|hu<;>rcases afy v 0 with hv|hv|hv
 ·have:=afL hu hv;omega
 ·subst hv;simp;omega
 ·have:=afM hu hv;omega
 ·subst hu;simp;omega
 ·subst hu;simp;omega
 ·subst hu;simp;omega
 ·have:=afN hu hv;omega
 ·subst hv;simp;omega
 ·have:=afm hu hv;omega
theorem sq_nonneg(s:Int):0<=s*s:=by
 rcases agu 0 s with h|h
 ·exact agf h h
 ·exact afJ h h
theorem SD{u1 u2 v1 v2:Int}(h:u1*v2=u2*v1):(u1*v1<=0/\u2*v2<=0)↔u1*v1+u2*v2<=0:=by
 constructor
 ·omega
 ·intro hs
  have key:(u1*v1)*(u2*v2)=(u1*v2)*(u1*v2):=by grind
  have h0:=sq_nonneg (u1*v2)
  rw[<- key]at h0
  constructor
  ·refine agx.1 fun hp=> ?_
   have:=afN hp (show u2*v2<0 by omega)
   omega
  ·refine agx.1 fun hp=> ?_
   have:=afM (show u1*v1<0 by omega) hp
   omega
theorem within_iff(a b n:Int):sy a b n=decide ((a - n)*(b - n)<=0):=by
 rw[ad0]
 simp only[sy,adf,adb]
 rw[<- yW]
 omega
theorem Vp(a b c:Pt):iz a b c=(decide (ai a b c=0)&&decide ((a.1 - c.1)*(b.1 - c.1)+(a.2 - c.2)*(b.2 - c.2)<=0)):=by
 unfold iz sd
 rw[<- Ex,within_iff,within_iff]
 by_cases h:ai a b c=0
 ·have h':(a.1 - c.1)*(b.2 - c.2)=(a.2 - c.2)*(b.1 - c.1):=by unfold ai at h;grind
  rw[ad0]
  simp only[sH,h,decide_true,aeo,adf,adb]
  exact SD h'
 ·simp[sH,h]
theorem Ud(a b c:Pt):nH a b c=nG a b c:=by unfold nH nG;rw[Vp]
theorem PE(a b c d:Pt)(h:¬(bC a/\bC b/\bC c/\bC d)):Spec Tryz.prog 124 (Args [eP a,eP b,eP c,eP d]) [] (eN 0) []:=by
 (refine T.h [] [] [.t 8] Tryz.func124 rfl rfl (by kernel_rfl) fun X hX hP hC aA bB=> ?_)
 repeat' (first|refine Rn.p ?_|((first|refine Rs.p ?_|with_reducible intro K hK|(refine hK _ ?_;clear hK K)|(refine dN (PD a b c d (by assumption)) ?_ rfl ?_;(focus(simp only[go_sem,simprocAttr];done))));try simp only[go_sem,simprocAttr]))
theorem Mz{a b c d:Pt}(h:¬(bC a/\bC b/\bC c/\bC d)):fF a b c d=0:=by rw[fF,ac7 h]
theorem MA(a b c d:Pt):Spec Tryz.prog 124 (Args [eP a,eP b,eP c,eP d]) [] (eN (fF a b c d)) []:=by
 by_cases h:bC a/\bC b/\bC c/\bC d
 ·exact SC a b c d h.1 h.2.1 h.2.2.1 h.2.2.2
 ·rw[Mz h];exact PE a b c d h
def key(p:Pt):List Int:= [p.1,p.2]
theorem key_inj{p q:Pt} :key p=key q↔p=q:=by simp[key,Prod.ext_iff]
theorem vX{x:List Int}{p:Pt}{ks:List (List Int)} :x∈CE p ks↔x=key p\/x∈ks:=by
 unfold CE
 split
 ·rename_i h
  constructor
  ·exact .inr
  ·rintro(rfl|h')
   ·exact h
   ·exact h'
 ·simp[key,or_comm]
theorem pM{p:Pt}{ks:List (List Int)}(h:ks.Nodup):(CE p ks).Nodup:=by
 unfold CE
 split
 ·exact h
 ·rename_i hn
  rw[adt]
  exact⟨h,by simp,fun a ha b hb=>by simp at hb;subst hb;exact fun e=>hn (e ▸ ha)⟩
theorem og(a b c d:Pt):(K4 a b c d).Nodup:=by
 have h1:(K1 a b c d).Nodup:=by unfold K1;split;exact pM ae0;exact ae0
 have h2:(K2 a b c d).Nodup:=by unfold K2;split;exact pM h1;exact h1
 have h3:(K3 a b c d).Nodup:=by unfold K3;split;exact pM h2;exact h2
 unfold K4;split;exact pM h3;exact h3
def Cx(a b c d p:Pt):Prop:=(iz c d a=true/\p=a)\/(iz c d b=true/\p=b)\/(iz a b c=true/\p=c)\/(iz a b d=true/\p=d)
theorem jl{a b c d:Pt}{x:List Int} :x∈K4 a b c d↔∃p,Cx a b c d p/\x=key p:=by
 have h1:x∈K1 a b c d↔iz c d a=true/\x=key a:=by unfold K1;split<;>simp_all[vX]
 have h2:x∈K2 a b c d↔(iz c d b=true/\x=key b)\/x∈K1 a b c d:=by unfold K2;split<;>simp_all[vX]
 have h3:x∈K3 a b c d↔(iz a b c=true/\x=key c)\/x∈K2 a b c d:=by unfold K3;split<;>simp_all[vX]
 have h4:x∈K4 a b c d↔(iz a b d=true/\x=key d)\/x∈K3 a b c d:=by unfold K4;split<;>simp_all[vX]
 rw[h4,h3,h2,h1]
 unfold Cx
 constructor
 ·rintro(⟨h,rfl⟩|⟨h,rfl⟩|⟨h,rfl⟩|⟨h,rfl⟩)
  ·exact⟨d, .inr (.inr (.inr ⟨h,rfl⟩)),rfl⟩
  ·exact⟨c, .inr (.inr (.inl ⟨h,rfl⟩)),rfl⟩
  ·exact⟨b, .inr (.inl ⟨h,rfl⟩),rfl⟩
  ·exact⟨a, .inl ⟨h,rfl⟩,rfl⟩
 ·rintro⟨p,(⟨h,rfl⟩|⟨h,rfl⟩|⟨h,rfl⟩|⟨h,rfl⟩),rfl⟩
  ·exact .inr (.inr (.inr ⟨h,rfl⟩))
  ·exact .inr (.inr (.inl ⟨h,rfl⟩))
  ·exact .inr (.inl ⟨h,rfl⟩)
  ·exact .inl ⟨h,rfl⟩
theorem vY{a b c d:Pt}(h:∀p,¬Cx a b c d p):(K4 a b c d).length=0:=by
 rw[agy,ae7]
 intro x hx
 obtain⟨p,hp,_⟩:=jl.1 hx
 exact h p hp
theorem IM{a b c d p:Pt}(h:Cx a b c d p)(h1:∀q,Cx a b c d q->q=p):(K4 a b c d).length=1:=by
 have e:(K4 a b c d).Perm [key p]:=(aeb (og a b c d) (by simp)).2 fun x=>by
  rw[jl]
  constructor
  ·rintro⟨q,hq,rfl⟩;rw[h1 q hq];simp
  ·intro hx;simp at hx;exact⟨p,h,hx⟩
 exact e.length_eq
theorem Vq{a b c d p q:Pt}(h:Cx a b c d p)(h1:Cx a b c d q)(hn:p≠q):2<=(K4 a b c d).length:=by
 have:=List.Nodup.length_le_of_subset (l₁:= [key p,key q]) (l₂:=K4 a b c d) (by simp[key_inj,hn]) (by
  intro x hx
  simp at hx
  rcases hx with rfl|rfl
  ·exact jl.2 ⟨p,h,rfl⟩
  ·exact jl.2 ⟨q,h1,rfl⟩)
 simpa using this
theorem Ey{a b c:Pt} :sd a b c=0↔ai a b c=0:=by unfold sd;rw[sH,Ex]
theorem dK{a b c:Pt} :iz a b c=true↔ai a b c=0/\(a.1 - c.1)*(b.1 - c.1)<=0/\(a.2 - c.2)*(b.2 - c.2)<=0:=by
 unfold iz
 rw[within_iff,within_iff]
 simp only[adf,adb,Ey,and_assoc]
theorem cD{x s:Int}(hs:s≠0)(h:x*(s*s)<=0):x<=0:=by
 have h1:=sq_nonneg s
 have h2:s*s≠0:=afG hs hs
 refine agx.1 fun hp=> ?_
 have:=afm hp (show 0<s*s by omega)
 omega
theorem c9{x s:Int}(h:x<=0):x*(s*s)<=0:=agA h (sq_nonneg s)
theorem KE{a b c d:Pt}(h0:ai c d a=0):tm a b c d*(c.1 - a.1)=ai a b c*(d.1 - c.1):=by unfold ai at*;unfold tm;grind
theorem PF{a b c d:Pt}(h0:ai c d a=0):tm a b c d*(d.1 - a.1)=ai a b d*(d.1 - c.1):=by unfold ai at*;unfold tm;grind
theorem KF{a b c d:Pt}(h0:ai c d a=0):tm a b c d*(c.2 - a.2)=ai a b c*(d.2 - c.2):=by unfold ai at*;unfold tm;grind
theorem PG{a b c d:Pt}(h0:ai c d a=0):tm a b c d*(d.2 - a.2)=ai a b d*(d.2 - c.2):=by unfold ai at*;unfold tm;grind
theorem Ue{t p q u v w:Int}(h1:t*p=u*w)(h2:t*q=v*w):(p*q)*(t*t)=(u*v)*(w*w):=by grind
theorem vZ{a b c d:Pt}(hT:tm a b c d≠0):iz c d a=true↔ai c d a=0/\ai a b c*ai a b d<=0:=by
 rw[dK]
 refine and_congr_right fun h0=> ?_
 have e1:=Ue (KE (b:=b) h0) (PF (b:=b) h0)
 have e2:=Ue (KF (b:=b) h0) (PG (b:=b) h0)
 constructor
 ·rintro⟨h1,h2⟩
  by_cases hx:d.1 - c.1=0
  ·have hy:d.2 - c.2≠0:=fun hy=>hT (by unfold tm;simp[hx,hy])
   exact cD hy (e2 ▸ c9 h2)
  ·exact cD hx (e1 ▸ c9 h1)
 ·intro h
  exact⟨cD hT (e1 ▸ c9 h),cD hT (e2 ▸ c9 h)⟩
theorem Ez(a b c d:Pt):tm b a c d= - tm a b c d:=by unfold tm;grind
theorem zQ(a b c d:Pt):tm c d a b= - tm a b c d:=by unfold tm;grind
theorem Be(a b c d:Pt):tm a b d c= - tm a b c d:=by unfold tm;grind
theorem fH(a b c:Pt):ai b a c= - ai a b c:=by unfold ai;grind
theorem k9(a b c d:Pt):ai a b d - ai a b c=tm a b c d:=by unfold ai tm;grind
theorem mg(a b c d:Pt):ai c d a - ai c d b=tm a b c d:=by unfold ai tm;grind
theorem fV(a b c:Pt):iz b a c=iz a b c:=by
 rw[ad0,dK,dK,fH,ahe (b.1 - c.1),ahe (b.2 - c.2)]
 simp
theorem IN{a b c d:Pt}(hT:tm a b c d≠0):iz c d b=true↔ai c d b=0/\ai a b c*ai a b d<=0:=by
 rw[vZ (a:=b) (b:=a) (by rw[Ez];omega),fH a b c,fH a b d,agZ]
theorem IP{a b c d:Pt}(hT:tm a b c d≠0):iz a b c=true↔ai a b c=0/\ai c d a*ai c d b<=0:=by
 rw[vZ (a:=c) (b:=d) (c:=a) (d:=b) (by rw[zQ];omega)]
theorem IQ{a b c d:Pt}(hT:tm a b c d≠0):iz a b d=true↔ai a b d=0/\ai c d a*ai c d b<=0:=by
 rw[vZ (a:=d) (b:=c) (c:=a) (d:=b) (by rw[zQ,Be];omega),fH c d a,fH c d b,agZ]
theorem sJ{a b c d:Pt}(hT:tm a b c d≠0)(h1:ai c d a=0)(h2:ai a b c=0):a=c:=by
 have k1:=KE (b:=b) h1
 have k2:=KF (b:=b) h1
 rw[h2,Int.zero_mul]at k1 k2
 have e1:=(afw.1 k1).resolve_left hT
 have e2:=(afw.1 k2).resolve_left hT
 exact afr (by omega) (by omega)
theorem v7(u v:Int):jh u 0*jh v 0<0↔u*v<0:=by
 unfold jh
 rcases afy u 0 with hu|hu|hu<;>rcases afy v 0 with hv|hv|hv
 ·have:=afL hu hv;simp[hu,hv];omega
 ·subst hv;simp
 ·have:=afM hu hv;simp[hu,hv,show ¬v<0 by omega,this]
 ·subst hu;simp
 ·subst hu;simp
 ·subst hu;simp
 ·have:=afN hu hv;simp[hu,hv,show ¬u<0 by omega,this]
 ·subst hv;simp
 ·have:=afm hu hv;simp[hu,hv,show ¬u<0 by omega,show ¬v<0 by omega];omega
theorem MB(u v:Int):jh u 0*jh v 0<=0↔u*v<=0:=by
 unfold jh
 rcases afy u 0 with hu|hu|hu<;>rcases afy v 0 with hv|hv|hv
 ·have:=afL hu hv;simp[hu,hv];omega
 ·subst hv;simp
 ·have:=afM hu hv;simp[hu,hv,show ¬v<0 by omega];omega
 ·subst hu;simp
 ·subst hu;simp
 ·subst hu;simp
 ·have:=afN hu hv;simp[hu,hv,show ¬u<0 by omega];omega
 ·subst hv;simp
 ·have:=afm hu hv;simp[hu,hv,show ¬u<0 by omega,show ¬v<0 by omega];omega
theorem sK(a b c:Pt):sd a b c=jh (ai a b c) 0:=by rw[Ex];rfl
def c8(a b c d:Pt):Int:=if 0<(K4 a b c d).length then min ((K4 a b c d).length:Int) 2 else if sd a b c*sd a b d<0/\sd c d a*sd c d b<0 then 1 else 0
theorem kf{a b c d:Pt}(hT:tm a b c d≠0):c8 a b c d=if ai a b c*ai a b d<=0/\ai c d a*ai c d b<=0 then 1 else 0:=by
 have oa:=vZ hT
 have ob:=IN hT
 have oc:=IP hT
 have od:=IQ hT
 have d1:=k9 a b c d
 have d2:=mg a b c d
 have one:∀p q,Cx a b c d p->Cx a b c d q->q=p:=by
  have ab:iz c d a=true->iz c d b=true->False:=fun h1 h2=>by have:=oa.1 h1;have:=ob.1 h2;omega
  have cd:iz a b c=true->iz a b d=true->False:=fun h1 h2=>by have:=oc.1 h1;have:=od.1 h2;omega
  have ac:iz c d a=true->iz a b c=true->a=c:=fun h1 h2=>sJ hT (oa.1 h1).1 (oc.1 h2).1
  have ad:iz c d a=true->iz a b d=true->a=d:=fun h1 h2=>sJ (c:=d) (d:=c) (by rw[Be];omega) (by rw[fH,(oa.1 h1).1];rfl) (od.1 h2).1
  have bc:iz c d b=true->iz a b c=true->b=c:=fun h1 h2=>sJ (a:=b) (b:=a) (d:=d) (by rw[Ez];omega) (ob.1 h1).1 (by rw[fH,(oc.1 h2).1];rfl)
  have bd:iz c d b=true->iz a b d=true->b=d:=fun h1 h2=>sJ (a:=b) (b:=a) (c:=d) (d:=c) (by rw[Ez,Be];omega) (by rw[fH,(ob.1 h1).1];rfl) (by rw[fH,(od.1 h2).1];rfl)
  rintro p q (⟨h1,rfl⟩|⟨h1,rfl⟩|⟨h1,rfl⟩|⟨h1,rfl⟩) (⟨h2,rfl⟩|⟨h2,rfl⟩|⟨h2,rfl⟩|⟨h2,rfl⟩)
  ·rfl
  ·exact(ab h1 h2).elim
  ·exact(ac h1 h2).symm
  ·exact(ad h1 h2).symm
  ·exact(ab h2 h1).elim
  ·rfl
  ·exact(bc h1 h2).symm
  ·exact(bd h1 h2).symm
  ·exact ac h2 h1
  ·exact bc h2 h1
  ·rfl
  ·exact(cd h1 h2).elim
  ·exact ad h2 h1
  ·exact bd h2 h1
  ·exact(cd h2 h1).elim
  ·rfl
 unfold c8
 simp only[sK,v7]
 by_cases hc:∃p,Cx a b c d p
 ·obtain⟨p,hp⟩:=hc
  rw[IM hp fun q hq=>one p q hp hq]
  have:ai a b c*ai a b d<=0/\ai c d a*ai c d b<=0:=by
   rcases hp with ⟨h,_⟩|⟨h,_⟩|⟨h,_⟩|⟨h,_⟩
   ·have:=oa.1 h;exact⟨this.2,by rw[this.1];simp⟩
   ·have:=ob.1 h;exact⟨this.2,by rw[this.1];simp⟩
   ·have:=oc.1 h;exact⟨by rw[this.1];simp,this.2⟩
   ·have:=od.1 h;exact⟨by rw[this.1];simp,this.2⟩
  rw[ac9 this];rfl
 ·have hn:∀p,¬Cx a b c d p:=fun p hp=>hc ⟨p,hp⟩
  rw[vY hn]
  simp only[agP,if_false]
  by_cases h:ai a b c*ai a b d<=0/\ai c d a*ai c d b<=0
  ·rw[ac9 h,ac9]
   have n1:ai a b c*ai a b d≠0:=fun h0=>by
    rcases afw.1 h0 with h0|h0
    ·exact hn c (.inr (.inr (.inl ⟨oc.2 ⟨h0,h.2⟩,rfl⟩)))
    ·exact hn d (.inr (.inr (.inr ⟨od.2 ⟨h0,h.2⟩,rfl⟩)))
   have n2:ai c d a*ai c d b≠0:=fun h0=>by
    rcases afw.1 h0 with h0|h0
    ·exact hn a (.inl ⟨oa.2 ⟨h0,h.1⟩,rfl⟩)
    ·exact hn b (.inr (.inl ⟨ob.2 ⟨h0,h.1⟩,rfl⟩))
   omega
  ·rw[ac7 h,ac7 (by omega)]
section
variable {a b:Pt}
theorem IS{p r:Pt}(hp:ai a b p=0)(hr:ai a b r=0):an a b b*(p.1 - r.1)=(an a b p - an a b r)*(b.1 - a.1):=by unfold ai at*;unfold an;grind
theorem IT{p r:Pt}(hp:ai a b p=0)(hr:ai a b r=0):an a b b*(p.2 - r.2)=(an a b p - an a b r)*(b.2 - a.2):=by unfold ai at*;unfold an;grind
theorem oh(hab:a≠b):0<an a b b:=by
 unfold an
 have h1:=sq_nonneg (b.1 - a.1)
 have h2:=sq_nonneg (b.2 - a.2)
 by_cases hx:b.1 - a.1=0
 ·have hy:b.2 - a.2≠0:=fun hy=>hab (afr (by omega) (by omega))
  have:=afG hy hy
  omega
 ·have:=afG hx hx
  omega
theorem v8:an a b a=0:=by unfold an;simp
theorem pN:ai a b a=0:=by unfold ai;grind
theorem x6:ai a b b=0:=by unfold ai;grind
theorem Gq(hab:a≠b){p r:Pt}(hp:ai a b p=0)(hr:ai a b r=0)(h:an a b p=an a b r):p=r:=by
 have hN:=oh hab
 have h1:=IS hp hr
 have h2:=IT hp hr
 rw[h,Int.sub_self,Int.zero_mul]at h1 h2
 have e1:=(afw.1 h1).resolve_left (by omega)
 have e2:=(afw.1 h2).resolve_left (by omega)
 exact afr (by omega) (by omega)
theorem x7(hab:a≠b){p q r:Pt}(hp:ai a b p=0)(hq:ai a b q=0)(hr:ai a b r=0):ai p q r=0:=by
 have h1:(b.1 - a.1)*ai p q r=0:=by unfold ai at*;grind
 have h2:(b.2 - a.2)*ai p q r=0:=by unfold ai at*;grind
 by_cases h:ai p q r=0
 ·exact h
 ·have e1:=(afw.1 h1).resolve_right h
  have e2:=(afw.1 h2).resolve_right h
  exact absurd (afr (by omega) (by omega)) hab
theorem PI{N x y u v w:Int}(h1:N*x=u*w)(h2:N*y=v*w):(x*y)*(N*N)=(u*v)*(w*w):=by grind
theorem pO(hab:a≠b){p q r:Pt}(hp:ai a b p=0)(hq:ai a b q=0)(hr:ai a b r=0):iz p q r=true↔min (an a b p) (an a b q)<=an a b r/\an a b r<=max (an a b p) (an a b q):=by
 have hN:=oh hab
 have e1:=PI (IS hp hr) (IS hq hr)
 have e2:=PI (IT hp hr) (IT hq hr)
 have e3:(min (an a b p) (an a b q)<=an a b r/\an a b r<=max (an a b p) (an a b q))↔(an a b p - an a b r)*(an a b q - an a b r)<=0:=by
  rw[<- yW];omega
 rw[dK,e3]
 constructor
 ·rintro⟨_,h1,h2⟩
  by_cases hx:b.1 - a.1=0
  ·have hy:b.2 - a.2≠0:=fun hy=>hab (afr (by omega) (by omega))
   exact cD hy (e2 ▸ c9 h2)
  ·exact cD hx (e1 ▸ c9 h1)
 ·intro h
  exact⟨x7 hab hp hq hr,cD (by omega) (e1 ▸ c9 h),cD (by omega) (e2 ▸ c9 h)⟩
end
theorem uL{a b c d:Pt}(hab:a≠b)(hcd:c≠d)(hc:ai a b c=0)(hd:ai a b d=0):
 c8 a b c d=if min (an a b b) (max (an a b c) (an a b d))<max (an a b a) (min (an a b c) (an a b d)) then 0
  else if max (an a b a) (min (an a b c) (an a b d))=min (an a b b) (max (an a b c) (an a b d)) then 1 else 2:=by
 have hN:=oh hab
 have h0:=v8 (a:=a) (b:=b)
 have oa:=pO hab hc hd pN
 have ob:=pO hab hc hd x6
 have oc:=pO hab pN x6 hc
 have od:=pO hab pN x6 hd
 have hne:an a b c≠an a b d:=fun h=>hcd (Gq hab hc hd h)
 have on:∀p,Cx a b c d p->ai a b p=0/\max (an a b a) (min (an a b c) (an a b d))<=an a b p/\an a b p<=min (an a b b) (max (an a b c) (an a b d)):=by
  rintro p (⟨h,rfl⟩|⟨h,rfl⟩|⟨h,rfl⟩|⟨h,rfl⟩)
  ·have:=oa.1 h;exact⟨pN,by omega⟩
  ·have:=ob.1 h;exact⟨x6,by omega⟩
  ·have:=oc.1 h;exact⟨hc,by omega⟩
  ·have:=od.1 h;exact⟨hd,by omega⟩
 have hz:¬(sd a b c*sd a b d<0/\sd c d a*sd c d b<0):=by
  have:sd a b c=0:=Ey.2 hc
  rw[this];simp
 by_cases hlt:min (an a b b) (max (an a b c) (an a b d))<max (an a b a) (min (an a b c) (an a b d))
 ·unfold c8
  rw[vY fun p hp=>by have:=on p hp;omega,ac7 (by simp),ac7 hz,ac9 hlt]
 ·rw[ac7 hlt]
  have lo:∃p,Cx a b c d p/\an a b p=max (an a b a) (min (an a b c) (an a b d)):=by
   by_cases h1:min (an a b c) (an a b d)<=an a b a
   ·exact⟨a, .inl ⟨oa.2 (by omega),rfl⟩,by omega⟩
   ·by_cases h2:an a b c<=an a b d
    ·exact⟨c, .inr (.inr (.inl ⟨oc.2 (by omega),rfl⟩)),by omega⟩
    ·exact⟨d, .inr (.inr (.inr ⟨od.2 (by omega),rfl⟩)),by omega⟩
  have hi:∃p,Cx a b c d p/\an a b p=min (an a b b) (max (an a b c) (an a b d)):=by
   by_cases h1:an a b b<=max (an a b c) (an a b d)
   ·exact⟨b, .inr (.inl ⟨ob.2 (by omega),rfl⟩),by omega⟩
   ·by_cases h2:an a b c<=an a b d
    ·exact⟨d, .inr (.inr (.inr ⟨od.2 (by omega),rfl⟩)),by omega⟩
    ·exact⟨c, .inr (.inr (.inl ⟨oc.2 (by omega),rfl⟩)),by omega⟩
  obtain⟨p,hp,hp1⟩:=lo
  obtain⟨q,hq,hq1⟩:=hi
  by_cases heq:max (an a b a) (min (an a b c) (an a b d))=min (an a b b) (max (an a b c) (an a b d))
  ·unfold c8
   rw[ac9 heq,IM hp fun r hr=>by
    have h1:=on r hr
    exact Gq hab h1.1 (on p hp).1 (by omega)]
   rfl
  ·have h2:=Vq hp hq (fun e=>by subst e;omega)
   unfold c8
   rw[ac7 heq,ac9 (by omega)]
   omega
theorem KG{a c:Pt} :iz a a c=true↔c=a:=by
 rw[dK]
 constructor
 ·rintro⟨_,h1,h2⟩
  have e1:a.1 - c.1=0:=by
   by_cases h:a.1 - c.1=0
   ·exact h
   ·have:=afG h h;have:=sq_nonneg (a.1 - c.1);omega
  have e2:a.2 - c.2=0:=by
   by_cases h:a.2 - c.2=0
   ·exact h
   ·have:=afG h h;have:=sq_nonneg (a.2 - c.2);omega
  exact afr (by omega) (by omega)
 ·rintro rfl
  exact⟨by unfold ai;grind,by simp,by simp⟩
theorem eV{a d:Pt} :iz a d a=true:=by rw[dK];exact⟨pN,by simp,by simp⟩
theorem Bf{a c d:Pt} :c8 a a c d=if iz c d a=true then 1 else 0:=by
 have hz:sd a a c=0:=Ey.2 (by unfold ai;grind)
 have on:∀p,Cx a a c d p->iz c d a=true/\p=a:=by
  rintro p (⟨h,rfl⟩|⟨h,rfl⟩|⟨h,rfl⟩|⟨h,rfl⟩)
  ·exact⟨h,rfl⟩
  ·exact⟨h,rfl⟩
  ·have:=KG.1 h;subst this;exact⟨eV,rfl⟩
  ·have:=KG.1 h;subst this;exact⟨by rw[fV];exact eV,rfl⟩
 unfold c8
 by_cases h:iz c d a=true
 ·rw[IM (p:=a) (.inl ⟨h,rfl⟩) fun q hq=>(on q hq).2,ac9 h];rfl
 ·rw[vY fun p hp=>h (on p hp).1,ac7 h]
  simp[hz]
theorem Bg(a b c d:Pt):c8 c d a b=c8 a b c d:=by
 have e:(K4 c d a b).Perm (K4 a b c d):=(aeb (og _ _ _ _) (og _ _ _ _)).2 fun x=>by
  rw[jl,jl]
  refine exists_congr fun p=>and_congr_left fun _=> ?_
  unfold Cx
  grind
 unfold c8
 rw[e.length_eq]
 congr 1
 simp only[and_comm]
theorem IU(a b c d:Pt):c8 b a c d=c8 a b c d:=by
 have e:(K4 b a c d).Perm (K4 a b c d):=(aeb (og _ _ _ _) (og _ _ _ _)).2 fun x=>by
  rw[jl,jl]
  refine exists_congr fun p=>and_congr_left fun _=> ?_
  unfold Cx
  rw[fV a b c,fV a b d]
  grind
 unfold c8
 rw[e.length_eq]
 simp only[sK,v7,fH a b,agZ,ahe (ai c d b)]
theorem Gs{a b c:Pt} :c8 a b c c=if iz a b c=true then 1 else 0:=by rw[<- Bg,Bf]
theorem jX(a b c d:Pt):fF a b c d=if bC a/\bC b/\bC c/\bC d then c8 a b c d else 0:=rfl
theorem KH(a b c d:Pt):jk a b c d=fF a b c d:=by
 rw[jX]
 unfold jk
 split
 ·rename_i hin
  have Cs:∀x y z:Pt,bC x->bC y->bC z->nH x y z=iz x y z:=fun x y z h1 h2 h3=>by rw[Ud,nG,ac6 ⟨h1,h2,h3⟩,aeo]
  rw[Cs c d a hin.2.2.1 hin.2.2.2 hin.1,Cs a b c hin.1 hin.2.1 hin.2.2.1]
  split
  ·rename_i hab;subst hab;rw[Bf]
  ·rename_i hab
   split
   ·rename_i hcd;subst hcd;rw[Gs]
   ·rename_i hcd
    simp only[sH,MB]
    by_cases hT:tm a b c d=0
    ·have d1:=k9 a b c d
     split
     ·rename_i hz;rw[uL hab hcd hz.1 hz.2]
     ·rename_i hz
      have hne:ai a b c≠0:=by omega
      have PJ:∀p,iz c d p=true->p=a\/p=b->False:=fun p hp h=>by
       have h1:=(dK.1 hp).1
       have d2:=mg a b c d
       have h2:ai c d a=0/\ai c d b=0:=by rcases h with rfl|rfl<;>omega
       exact hne (x7 hcd h2.1 h2.2 pN)
      have hn:∀p,¬Cx a b c d p:=by
       rintro p (⟨h,rfl⟩|⟨h,rfl⟩|⟨h,rfl⟩|⟨h,rfl⟩)
       ·exact PJ _ h (.inl rfl)
       ·exact PJ _ h (.inr rfl)
       ·exact hne (dK.1 h).1
       ·have:=(dK.1 h).1;omega
      have hq:ai a b d=ai a b c:=by omega
      have hp:=sq_nonneg (ai a b c)
      have Ww:=afG hne hne
      unfold c8
      rw[vY hn]
      simp only[sK,v7,agP,if_false]
      rw[ac7 (fun h=>by have h:=h.1;rw[hq]at h;omega),ac7 (fun h=>by have h:=h.1;rw[hq]at h;omega)]
    ·rw[kf hT,ac7]
     have d1:=k9 a b c d
     omega
 ·rfl
abbrev Pc:=Pt × Pt
def rQ(q:Pc):List D:= [.sc (.int .i64 q.1.1), .sc (.int .i64 q.1.2), .sc (.int .i64 q.2.1), .sc (.int .i64 q.2.2)]
def eQ(q:Pc):AV:= .agg [.d (.sc (.int .i64 q.1.1)), .d (.sc (.int .i64 q.1.2)), .d (.sc (.int .i64 q.2.1)), .d (.sc (.int .i64 q.2.2))]
def sQ(qs:List Pc):D:= .sl 4 (qs.map rQ)
def sP(ps:List Pt):D:= .sl 2 (ps.map rP)
def vP(ls:List (List Pt)):List (List D):=ls.map fun l=> [sP l]
def sLn(ls:List (List Pt)):D:= .sl 1 (vP ls)
def eLn(l:List Pt):AV:= .d (sP l)
theorem getD_rQ(ps:List Pc)(i:Nat):(ps.map rQ).getD i [.sc (.int .i64 0), .sc (.int .i64 0), .sc (.int .i64 0), .sc (.int .i64 0)]=rQ (ps.getD i ((0,0),(0,0))):=by
 simp only[aas,adm]
 cases ps[i]? <;>rfl
theorem rQ_eq(q:Pc):rQ q= [.sc (.int .i64 q.1.1), .sc (.int .i64 q.1.2), .sc (.int .i64 q.2.1), .sc (.int .i64 q.2.2)]:=rfl
theorem vP_length(ls:List (List Pt)):(vP ls).length=ls.length:=by simp[vP]
theorem vP_getD(ls:List (List Pt))(i:Nat):(vP ls).getD i [.sl 2 []]= [sP (ls.getD i [])]:=by
 simp only[vP,aas,adm]
 cases ls[i]? <;>rfl
attribute [go_sem] getD_rQ rQ_eq eQ sQ sP sLn eLn vP_length vP_getD
theorem az{α:Type}{l:List α}{m:Nat}{d:α}(h:m<l.length):l.getD m d∈l:=by
 rw[aas,acF h];exact ad2 h
theorem qk{m:List (Nat × AObj)}(hR:cC m)(f:Nat)(caps:List AV)(g:Pc->Bool)(ps:List Pc)(hf:∀p∈ps,Spec Tryz.prog f (Args (eQ p::caps)) m (eB (g p)) m)(hl:ps.length<=9223372036854775807):
 Spec Tryz.prog 168 (Args [.d (sQ ps), .fn f [] caps]) m (eN (bT g ps)) m:=by
 (refine T.hS [] [] [.t 4] hR Tryz.func168 rfl rfl (by kernel_rfl) fun X hX hP hC aA bB=> ?_)
 repeat' (first|refine Rn.p ?_|((first|refine Rs.p ?_|with_reducible intro K hK|(refine hK _ ?_;clear hK K));try simp only[go_sem,simprocAttr]))
 refine ag (fun k:Nat=>k<=ps.length/\∀j,j<k->g (ps.getD j ((0,0),(0,0)))=false) (fun k=>⟨[(0, .d (sQ ps)),(1, .fn f [] caps),(7,eN ps.length),(8,eN k)],m⟩) (fun k=>ps.length - k) 0 (by simp) ?_ ?_
 ·(refine⟨bS ?_,fun _ _ h=>h⟩;simp[go_sem,simprocAttr])
 rintro k ⟨hk,hg⟩
 rcases adj k ps.length with hlt|hge
 ·have hb:decide ((k:Int)<(ps.length:Int))=true:=ac6 (by omega)
  have hf':=hf (ps.getD k ((0,0),(0,0))) (az hlt)
  repeat' (first|refine Rn.p ?_|((first|refine Rs.p ?_|with_reducible intro K hK|(refine hK _ ?_;clear hK K)|(first|(refine aR hR (hf') ?_ rfl rfl ?_;(focus(first|exact fun p hp=>aL (cC.nd hR) hp|(simp[go_sem,simprocAttr,hb];done))))|(refine aR hR (hf') ?_ ?_ rfl ?_;(focus(first|exact fun p hp=>aL (cC.nd hR) hp|(simp[go_sem,simprocAttr,hb];done)));(focus(simp[go_sem,simprocAttr,hb];done)))));try simp only[go_sem,simprocAttr,hb])|with_reducible (first|apply And.intro|(intro h;try simp only[go_sem,simprocAttr,hb]at h))|omega)
  ·exact(b9 (by omega) hg h).symm
  ·exact cu hR
  ·refine⟨k+1,⟨by omega,fun j hj=> ?_⟩, ?_,by omega⟩
   ·by_cases hjk:j=k
    ·subst hjk;exact h
    ·exact hg j (by omega)
   ·(refine⟨bS ?_,fun _ _ h=>h⟩;simp[go_sem,simprocAttr,hb])
 ·have hb:decide ((k:Int)<(ps.length:Int))=false:=ac5 (by omega)
  repeat' (first|refine Rn.p ?_|((first|refine Rs.p ?_|with_reducible intro K hK|(refine hK _ ?_;clear hK K));try simp only[go_sem,simprocAttr,hb])|with_reducible (apply And.intro))
  ·exact(bL ((0,0),(0,0)) fun j hj=>hg j (by omega)).symm
  ·exact cu hR
theorem mh{m:List (Nat × AObj)}(hR:cC m)(f:Nat)(caps:List AV)(g:Pc->Bool)(ps:List Pc)(hf:∀p∈ps,Spec Tryz.prog f (Args (eQ p::caps)) m (eB (g p)) m)(hl:ps.length<=9223372036854775807):
 Spec Tryz.prog 118 (Args [.d (sQ ps), .fn f [] caps]) m (eB (ps.any g)) m:=by
 (refine T.hS [] [] [.t 4] hR Tryz.func118 rfl rfl (by kernel_rfl) fun X hX hP hC aA bB=> ?_)
 repeat' (first|refine Rn.p ?_|((first|refine Rs.p ?_|with_reducible intro K hK|(refine hK _ ?_;clear hK K)|(first|(refine aR hR (qk hR f caps g ps hf hl) ?_ rfl rfl ?_;(focus(first|exact fun p hp=>aL (cC.nd hR) hp|(simp[go_sem,simprocAttr];done))))|(refine aR hR (qk hR f caps g ps hf hl) ?_ ?_ rfl ?_;(focus(first|exact fun p hp=>aL (cC.nd hR) hp|(simp[go_sem,simprocAttr];done)));(focus(simp[go_sem,simprocAttr];done)))));try simp only[go_sem,simprocAttr])|with_reducible (apply And.intro))
 ·exact cT g ps
 ·exact cu hR
theorem om{m:List (Nat × AObj)}(hR:cC m)(f:Nat)(caps:List AV)(g:Pt->Bool)(ps:List Pt)(hf:∀p∈ps,Spec Tryz.prog f (Args (eP p::caps)) m (eB (g p)) m)(hl:ps.length<=9223372036854775807):
 Spec Tryz.prog 172 (Args [.d (sP ps), .fn f [] caps]) m (eN (bT g ps)) m:=by
 (refine T.hS [] [] [.t 4] hR Tryz.func172 rfl rfl (by kernel_rfl) fun X hX hP hC aA bB=> ?_)
 repeat' (first|refine Rn.p ?_|((first|refine Rs.p ?_|with_reducible intro K hK|(refine hK _ ?_;clear hK K));try simp only[go_sem,simprocAttr]))
 refine ag (fun k:Nat=>k<=ps.length/\∀j,j<k->g (ps.getD j (0,0))=false) (fun k=>⟨[(0, .d (sP ps)),(1, .fn f [] caps),(7,eN ps.length),(8,eN k)],m⟩) (fun k=>ps.length - k) 0 (by simp) ?_ ?_
 ·(refine⟨bS ?_,fun _ _ h=>h⟩;simp[go_sem,simprocAttr])
 rintro k ⟨hk,hg⟩
 rcases adj k ps.length with hlt|hge
 ·have hb:decide ((k:Int)<(ps.length:Int))=true:=ac6 (by omega)
  have hf':=hf (ps.getD k (0,0)) (az hlt)
  repeat' (first|refine Rn.p ?_|((first|refine Rs.p ?_|with_reducible intro K hK|(refine hK _ ?_;clear hK K)|(first|(refine aR hR (hf') ?_ rfl rfl ?_;(focus(first|exact fun p hp=>aL (cC.nd hR) hp|(simp[go_sem,simprocAttr,hb];done))))|(refine aR hR (hf') ?_ ?_ rfl ?_;(focus(first|exact fun p hp=>aL (cC.nd hR) hp|(simp[go_sem,simprocAttr,hb];done)));(focus(simp[go_sem,simprocAttr,hb];done)))));try simp only[go_sem,simprocAttr,hb])|with_reducible (first|apply And.intro|(intro h;try simp only[go_sem,simprocAttr,hb]at h))|omega)
  ·exact(b9 (by omega) hg h).symm
  ·exact cu hR
  ·refine⟨k+1,⟨by omega,fun j hj=> ?_⟩, ?_,by omega⟩
   ·by_cases hjk:j=k
    ·subst hjk;exact h
    ·exact hg j (by omega)
   ·(refine⟨bS ?_,fun _ _ h=>h⟩;simp[go_sem,simprocAttr,hb])
 ·have hb:decide ((k:Int)<(ps.length:Int))=false:=ac5 (by omega)
  repeat' (first|refine Rn.p ?_|((first|refine Rs.p ?_|with_reducible intro K hK|(refine hK _ ?_;clear hK K));try simp only[go_sem,simprocAttr,hb])|with_reducible (apply And.intro))
  ·exact(bL (0,0) fun j hj=>hg j (by omega)).symm
  ·exact cu hR
theorem tG{m:List (Nat × AObj)}(hR:cC m)(f:Nat)(caps:List AV)(g:Pt->Bool)(ps:List Pt)(hf:∀p∈ps,Spec Tryz.prog f (Args (eP p::caps)) m (eB (g p)) m)(hl:ps.length<=9223372036854775807):
 Spec Tryz.prog 127 (Args [.d (sP ps), .fn f [] caps]) m (eB (ps.any g)) m:=by
 (refine T.hS [] [] [.t 4] hR Tryz.func127 rfl rfl (by kernel_rfl) fun X hX hP hC aA bB=> ?_)
 repeat' (first|refine Rn.p ?_|((first|refine Rs.p ?_|with_reducible intro K hK|(refine hK _ ?_;clear hK K)|(first|(refine aR hR (om hR f caps g ps hf hl) ?_ rfl rfl ?_;(focus(first|exact fun p hp=>aL (cC.nd hR) hp|(simp[go_sem,simprocAttr];done))))|(refine aR hR (om hR f caps g ps hf hl) ?_ ?_ rfl ?_;(focus(first|exact fun p hp=>aL (cC.nd hR) hp|(simp[go_sem,simprocAttr];done)));(focus(simp[go_sem,simprocAttr];done)))));try simp only[go_sem,simprocAttr])|with_reducible (apply And.intro))
 ·exact cT g ps
 ·exact cu hR
theorem oo{m:List (Nat × AObj)}(hR:cC m)(f:Nat)(caps:List AV)(g:List Pt->Bool)(ps:List (List Pt))(hf:∀p∈ps,Spec Tryz.prog f (Args (eLn p::caps)) m (eB (g p)) m)(hl:ps.length<=9223372036854775807):
 Spec Tryz.prog 167 (Args [.d (sLn ps), .fn f [] caps]) m (eN (bT g ps)) m:=by
 (refine T.hS [] [] [.t 4] hR Tryz.func167 rfl rfl (by kernel_rfl) fun X hX hP hC aA bB=> ?_)
 repeat' (first|refine Rn.p ?_|((first|refine Rs.p ?_|with_reducible intro K hK|(refine hK _ ?_;clear hK K));try simp only[go_sem,simprocAttr]))
 refine ag (fun k:Nat=>k<=ps.length/\∀j,j<k->g (ps.getD j [])=false) (fun k=>⟨[(0, .d (sLn ps)),(1, .fn f [] caps),(7,eN ps.length),(8,eN k)],m⟩) (fun k=>ps.length - k) 0 (by simp) ?_ ?_
 ·(refine⟨bS ?_,fun _ _ h=>h⟩;simp[go_sem,simprocAttr])
 rintro k ⟨hk,hg⟩
 rcases adj k ps.length with hlt|hge
 ·have hb:decide ((k:Int)<(ps.length:Int))=true:=ac6 (by omega)
  have hf':=hf (ps.getD k []) (az hlt)
  repeat' (first|refine Rn.p ?_|((first|refine Rs.p ?_|with_reducible intro K hK|(refine hK _ ?_;clear hK K)|(first|(refine aR hR (hf') ?_ rfl rfl ?_;(focus(first|exact fun p hp=>aL (cC.nd hR) hp|(simp[go_sem,simprocAttr,hb];done))))|(refine aR hR (hf') ?_ ?_ rfl ?_;(focus(first|exact fun p hp=>aL (cC.nd hR) hp|(simp[go_sem,simprocAttr,hb];done)));(focus(simp[go_sem,simprocAttr,hb];done)))));try simp only[go_sem,simprocAttr,hb])|with_reducible (first|apply And.intro|(intro h;try simp only[go_sem,simprocAttr,hb]at h))|omega)
  ·exact(b9 (by omega) hg h).symm
  ·exact cu hR
  ·refine⟨k+1,⟨by omega,fun j hj=> ?_⟩, ?_,by omega⟩
   ·by_cases hjk:j=k
    ·subst hjk;exact h
    ·exact hg j (by omega)
   ·(refine⟨bS ?_,fun _ _ h=>h⟩;simp[go_sem,simprocAttr,hb])
 ·have hb:decide ((k:Int)<(ps.length:Int))=false:=ac5 (by omega)
  repeat' (first|refine Rn.p ?_|((first|refine Rs.p ?_|with_reducible intro K hK|(refine hK _ ?_;clear hK K));try simp only[go_sem,simprocAttr,hb])|with_reducible (apply And.intro))
  ·exact(bL [] fun j hj=>hg j (by omega)).symm
  ·exact cu hR
theorem tH{m:List (Nat × AObj)}(hR:cC m)(f:Nat)(caps:List AV)(g:List Pt->Bool)(ps:List (List Pt))(hf:∀p∈ps,Spec Tryz.prog f (Args (eLn p::caps)) m (eB (g p)) m)(hl:ps.length<=9223372036854775807):
 Spec Tryz.prog 116 (Args [.d (sLn ps), .fn f [] caps]) m (eB (ps.any g)) m:=by
 (refine T.hS [] [] [.t 4] hR Tryz.func116 rfl rfl (by kernel_rfl) fun X hX hP hC aA bB=> ?_)
 repeat' (first|refine Rn.p ?_|((first|refine Rs.p ?_|with_reducible intro K hK|(refine hK _ ?_;clear hK K)|(first|(refine aR hR (oo hR f caps g ps hf hl) ?_ rfl rfl ?_;(focus(first|exact fun p hp=>aL (cC.nd hR) hp|(simp[go_sem,simprocAttr];done))))|(refine aR hR (oo hR f caps g ps hf hl) ?_ ?_ rfl ?_;(focus(first|exact fun p hp=>aL (cC.nd hR) hp|(simp[go_sem,simprocAttr];done)));(focus(simp[go_sem,simprocAttr];done)))));try simp only[go_sem,simprocAttr])|with_reducible (apply And.intro))
 ·exact cT g ps
 ·exact cu hR
structure Dr where
 pts:List Pt
 ls:List (List Pt)
def eDr(d:Dr):AV:= .agg [.d (sP d.pts), .d (sLn d.ls)]
def lkO(g:Gr)(d:Dr):AObj:= .rob [eN g.n, .d (sE g.es), .d (sP d.pts), .d (sLn d.ls)]
theorem EA(g:Gr)(d:Dr):cC [(10000,lkO g d)]:=⟨by simp[lkO,AObj.ro],by simp[nodupM,look],by simp,by simp[lkO,AObj.ids,AV.ids,AV.idss,eN]⟩
attribute [go_sem] eDr lkO
def MC(l:List Pt)(k:Nat):List Pc:=(List.range k).map fun i=>(l.getD i (0,0),l.getD (i+1) (0,0))
def fe(l:List Pt):List Pc:=MC l (l.length - 1)
theorem PK{l:List Pt}{k:Nat} :MC l (k+1)=MC l k++ [(l.getD k (0,0),l.getD (k+1) (0,0))]:=by simp[MC,adV]
theorem uM{l:List Pt}{k:Nat} :(MC l k).length=k:=by simp[MC]
theorem fW{l:List Pt} :(fe l).length=l.length - 1:=uM
theorem mV(l:List Pt)(h1:1<=l.length)(hl:l.length<=1000000):Spec Tryz.prog 119 (Args [.d (sP l)]) [] (.d (sQ (fe l))) []:=by
 (refine T.h [] [] [.t 2] Tryz.func119 rfl rfl (by kernel_rfl) fun X hX hP hC aA bB=> ?_)
 repeat' (first|refine Rn.p ?_|((first|refine Rs.p ?_|with_reducible intro K hK|(refine hK _ ?_;clear hK K));try simp only[go_sem,simprocAttr])|with_reducible (apply And.intro)|omega)
 (refine dQ hX 2 22 (.tip 176 4 []) (by simp only[go_sem,simprocAttr]) (by simp only[go_sem,simprocAttr]) (by decide) ⟨176,4,by decide, .inr rfl⟩ ?_;simp only[go_sem,simprocAttr])
 refine ag (fun k:Nat=>k<=l.length - 1) (fun k=>⟨[(0, .d (sP l)),(6,eN (l.length - 1:Nat)),(7,eN k),(2, .ref 22)], [(22, .tip 176 4 ((MC l k).map rQ))]⟩) (fun k=>l.length - 1 - k) 0 (by omega) ?_ ?_
 ·refine Le.of ?_ ?_<;>simp[go_sem,simprocAttr,MC]
 rintro k hk
 rcases adj k (l.length - 1) with hlt|hge
 ·have hb:decide ((k:Int)<((l.length - 1:Nat):Int))=true:=ac6 (by omega)
  repeat' (first|refine Rn.p ?_|((first|refine Rs.p ?_|with_reducible intro K hK|(refine hK _ ?_;clear hK K));try simp only[go_sem,simprocAttr,hb,uM])|with_reducible (first|apply And.intro|refine oD (by kernel_rfl) ?_)|omega)
  refine⟨k+1,by omega, ?_,by omega⟩
  refine Le.of ?_ ?_<;>simp[go_sem,simprocAttr,hb,uM,PK,rQ]
 ·have hb:decide ((k:Int)<((l.length - 1:Nat):Int))=false:=ac5 (by omega)
  obtain rfl:k=l.length - 1:=by omega
  repeat' (first|refine Rn.p ?_|((first|refine Rs.p ?_|with_reducible intro K hK|(refine hK _ ?_;clear hK K));try simp only[go_sem,simprocAttr,hb]))
  rfl
def robPt(p:Pt):List (Nat × AObj):= [(10000, .rob [eN p.1,eN p.2])]
theorem PL(p:Pt):cC (robPt p):=⟨by simp[robPt,AObj.ro],by simp[robPt,nodupM,look],by simp[robPt],by simp[robPt,AObj.ids,AV.ids,AV.idss,eN]⟩
attribute [go_sem] robPt
theorem MD(q:Pc)(p:Pt):Spec Tryz.prog 170 (Args [eQ q, .ptr 10000 0]) (robPt p) (eB (nG q.1 q.2 p)) (robPt p):=by
 unfold robPt
 (refine T.h [] [] [.t 3] Tryz.func170 rfl rfl (by kernel_rfl) fun X hX hP hC aA bB=> ?_)
 repeat' (first|refine Rn.p ?_|((first|refine Rs.p ?_|with_reducible intro K hK|(refine hK _ ?_;clear hK K)|refine aa (Eu q.1 q.2 p) rfl ?_);try simp only[go_sem,simprocAttr]))
def SE(l:List Pt)(p:Pt):Bool:=(fe l).any fun q=>nG q.1 q.2 p
theorem ME(l:List Pt)(p:Pt)(h1:1<=l.length)(hl:l.length<=1000000):Spec Tryz.prog 122 (Args [.d (sP l),eP p]) [] (eB (SE l p)) []:=by
 have hl':(fe l).length<=9223372036854775807:=by rw[fW];omega
 (refine T.h [] [] [.t 4] Tryz.func122 rfl rfl (by kernel_rfl) fun X hX hP hC aA bB=> ?_)
 repeat' (first|refine Rn.p ?_|((first|refine Rs.p ?_|with_reducible intro K hK|(refine hK _ ?_;clear hK K)|refine aa (mV l h1 hl) rfl ?_|(refine bw [(10000,3)] (mh (PL p) _ _ (fun q=>nG q.1 q.2 p) (fe l) (fun q _=>MD q p) hl') ?_ ?_;(focus(simp[go_sem,simprocAttr];done))));try simp only[go_sem,simprocAttr]))
 rfl
theorem Gt(q:Pc):Spec Tryz.prog 120 (Args [eQ q]) [] (eB (decide (q.2.2<=q.1.2))) []:=by
 (refine T.h [] [] [.t 2] Tryz.func120 rfl rfl (by kernel_rfl) fun X hX hP hC aA bB=> ?_)
 repeat' (first|refine Rn.p ?_|((first|refine Rs.p ?_|with_reducible intro K hK|(refine hK _ ?_;clear hK K));try simp only[go_sem,simprocAttr]))
def gL(l:List Pt):Bool:= !(fe l).any fun q=>decide (q.2.2<=q.1.2)
structure x8 (g:Gr) (d:Dr):Prop where
 may:aM g=true
 np:(d.pts.length:Int)=g.n
 nl:d.ls.length=g.es.length
 lg:∀l∈d.ls,2<=l.length/\l.length<=8
theorem x8.line{g:Gr}{d:Dr}(h:x8 g d){i:Nat}(hi:i<g.es.length):2<=(d.ls.getD i []).length/\(d.ls.getD i []).length<=8:=h.lg _ (az (by rw[h.nl];exact hi))
theorem IV(g:Gr)(d:Dr)(h:x8 g d)(i:Nat)(hi:i<g.es.length):Spec Tryz.prog 69 (Args [.ptr 10000 0,eN i]) [(10000,lkO g d)] (eB (gL (d.ls.getD i []))) [(10000,lkO g d)]:=by
 have hn:=aB h.may
 have hnl:=h.nl
 obtain⟨h2,h8⟩:=h.line hi
 have h1:1<=(d.ls.getD i []).length:=by omega
 have hl:(d.ls.getD i []).length<=1000000:=by omega
 have hl':(fe (d.ls.getD i [])).length<=9223372036854775807:=by rw[fW];omega
 unfold lkO
 (refine T.h [] [] [.t 4] Tryz.func69 rfl rfl (by kernel_rfl) fun X hX hP hC aA bB=> ?_)
 repeat' (first|refine Rn.p ?_|((first|refine Rs.p ?_|with_reducible intro K hK|(refine hK _ ?_;clear hK K)|refine aa (mV (d.ls.getD i []) h1 hl) rfl ?_|refine aa (mh cC.nil _ [] (fun q=>decide (q.2.2<=q.1.2)) (fe (d.ls.getD i [])) (fun q _=>Gt q) hl') rfl ?_);try simp only[go_sem,simprocAttr])|with_reducible (apply And.intro)|omega)
 rfl
def qT(g:Gr)(d:Dr)(i:Nat):Bool:=decide ((d.ls.getD i []).getD 0 (0,0)=d.pts.getD (g.es.getD i (0,0)).1.toNat (0,0))&&decide ((d.ls.getD i []).getD ((d.ls.getD i []).length - 1) (0,0)=d.pts.getD (g.es.getD i (0,0)).2.toNat (0,0))
theorem IW(g:Gr)(d:Dr)(h:x8 g d)(i:Nat)(hi:i<g.es.length):Spec Tryz.prog 68 (Args [.ptr 10000 0,eN i]) [(10000,lkO g d)] (eB (qT g d i)) [(10000,lkO g d)]:=by
 have hn:=aB h.may
 have hnp:=h.np
 have hnl:=h.nl
 obtain⟨h2,h8⟩:=h.line hi
 obtain⟨⟨Pg,yL⟩,Cu,yM⟩:=cU h.may hi
 have htn:(((d.ls.getD i []).length:Int) - 1).toNat=(d.ls.getD i []).length - 1:=by omega
 unfold lkO
 (refine T.h [] [] [.t 4] Tryz.func68 rfl rfl (by kernel_rfl) fun X hX hP hC aA bB=> ?_)
 repeat' (first|refine Rn.p ?_|((first|refine Rs.p ?_|with_reducible intro K hK|(refine hK _ ?_;clear hK K));try simp only[go_sem,simprocAttr,qK,htn])|with_reducible (first|apply And.intro|refine oD (by kernel_rfl) ?_|(intro h;try simp only[go_sem,simprocAttr,qK,htn]at h))|omega)
 ·have h0:(d.ls.getD i []).getD 0 (0,0)=d.pts.getD (g.es.getD i (0,0)).1.toNat (0,0):=by assumption
  simp only[qT,h0,decide_true,aeo]
 ·have h0:¬(d.ls.getD i []).getD 0 (0,0)=d.pts.getD (g.es.getD i (0,0)).1.toNat (0,0):=by assumption
  simp only[qT,h0,decide_false,agb]
def Vr(l:List Pt)(x:Pt):Int:=bT (fun y=>decide (x=y)) l
theorem PM(l:List Pt)(x:Pt):decide (0<=Vr l x)=decide (x∈l):=by
 unfold Vr;rw[cT,ad0];simp[-Prod.exists, -Prod.forall]
theorem Gu(ps:List Pt)(x:Pt)(hl:ps.length<=9223372036854775807):
 Spec Tryz.prog 169 (Args [.d (sP ps),eP x]) [] (eN (Vr ps x)) []:=by
 (refine T.h [] [] [.t 4] Tryz.func169 rfl rfl (by kernel_rfl) fun X hX hP hC aA bB=> ?_)
 repeat' (first|refine Rn.p ?_|((first|refine Rs.p ?_|with_reducible intro K hK|(refine hK _ ?_;clear hK K));try simp only[go_sem,simprocAttr]))
 refine ag (fun k:Nat=>k<=ps.length/\∀j,j<k->decide (x=ps.getD j (0,0))=false) (fun k=>⟨[(0, .d (sP ps)),(3, .ptr 3 0),(7,eN ps.length),(8,eN k)], [(3, .box [eN x.1,eN x.2])]⟩) (fun k=>ps.length - k) 0 (by simp) ?_ ?_
 ·(refine Le.of ?_ ?_<;>simp[go_sem,simprocAttr])
 rintro k ⟨hk,hg⟩
 repeat' (first|refine Rn.p ?_|((first|refine Rs.p ?_|with_reducible intro K hK|(refine hK _ ?_;clear hK K));try simp only[go_sem,simprocAttr,qK])|with_reducible (first|apply And.intro|refine oD (by kernel_rfl) ?_|(intro h;try simp only[go_sem,simprocAttr,qK]at h))|omega)
 ·exact(b9 (d:=(0,0)) (by omega) hg (by simpa using h)).symm
 ·refine⟨k+1,⟨by omega,fun j hj=> ?_⟩, ?_,by omega⟩
  ·by_cases hjk:j=k
   ·subst hjk;exact h
   ·simpa using hg j (by omega)
  ·(refine Le.of ?_ ?_<;>simp[go_sem,simprocAttr,qK])
 ·exact(bL (0,0) fun j hj=>hg j (by omega)).symm
theorem Bh(ps:List Pt)(x:Pt)(hl:ps.length<=9223372036854775807):
 Spec Tryz.prog 121 (Args [.d (sP ps),eP x]) [] (eB (decide (x∈ps))) []:=by
 rw[<- PM]
 (refine T.h [] [] [.t 4] Tryz.func121 rfl rfl (by kernel_rfl) fun X hX hP hC aA bB=> ?_)
 repeat' (first|refine Rn.p ?_|((first|refine Rs.p ?_|with_reducible intro K hK|(refine hK _ ?_;clear hK K)|refine aa (Gu ps x hl) rfl ?_);try simp only[go_sem,simprocAttr]))
def fD(d:Dr)(x:Nat):Bool:= !decide (d.pts.getD x (0,0)∈d.pts.take x)
theorem IX(g:Gr)(d:Dr)(h:x8 g d)(x:Nat)(hx:x<d.pts.length):Spec Tryz.prog 70 (Args [.ptr 10000 0,eN x]) [(10000,lkO g d)] (eB (fD d x)) [(10000,lkO g d)]:=by
 have hn:=aB h.may
 have hnp:=h.np
 have hl:(d.pts.take x).length<=9223372036854775807:=by rw[adG];omega
 unfold lkO
 (refine T.h [] [] [.t 4] Tryz.func70 rfl rfl (by kernel_rfl) fun X hX hP hC aA bB=> ?_)
 repeat' (first|refine Rn.p ?_|((first|refine Rs.p ?_|with_reducible intro K hK|(refine hK _ ?_;clear hK K)|refine aa (Bh (d.pts.take x) (d.pts.getD x (0,0)) hl) rfl ?_);try simp only[go_sem,simprocAttr, <- List.map_take])|with_reducible (first|apply And.intro|refine oD (by kernel_rfl) ?_)|omega)
 rfl
def oq(g:Gr)(d:Dr)(i k:Nat):Bool:=(List.range k).all fun x=>decide ((x:Int)=(g.es.getD i (0,0)).1)||decide ((x:Int)=(g.es.getD i (0,0)).2)|| !SE (d.ls.getD i []) (d.pts.getD x (0,0))
def kL(g:Gr)(d:Dr)(i:Nat):Bool:=oq g d i d.pts.length
theorem Bi{g:Gr}{d:Dr}{i k:Nat} :oq g d i (k+1)=(oq g d i k&&(decide ((k:Int)=(g.es.getD i (0,0)).1)||decide ((k:Int)=(g.es.getD i (0,0)).2)|| !SE (d.ls.getD i []) (d.pts.getD k (0,0)))):=by
 simp[oq,adV]
theorem we{n k:Nat}{f:Nat->Bool}(hk:k<n)(h:f k=false):(List.range n).all f=false:=by
 rw[List.all_eq_false];exact⟨k,adk.2 hk,by simp[h]⟩
theorem free_spec(g:Gr)(d:Dr)(h:x8 g d)(i:Nat)(hi:i<g.es.length):Spec Tryz.prog 71 (Args [.ptr 10000 0,eN i]) [(10000,lkO g d)] (eB (kL g d i)) [(10000,lkO g d)]:=by
 have hn:=aB h.may
 have hnp:=h.np
 have hnl:=h.nl
 obtain⟨h2,h8⟩:=h.line hi
 have h1:1<=(d.ls.getD i []).length:=by omega
 have hl:(d.ls.getD i []).length<=1000000:=by omega
 unfold lkO
 (refine T.h [] [] [.t 4] Tryz.func71 rfl rfl (by kernel_rfl) fun X hX hP hC aA bB=> ?_)
 repeat' (first|refine Rn.p ?_|((first|refine Rs.p ?_|with_reducible intro K hK|(refine hK _ ?_;clear hK K));try simp only[go_sem,simprocAttr])|with_reducible (apply And.intro)|omega)
 refine ag (fun k:Nat=>k<=d.pts.length/\oq g d i k=true) (fun k=>⟨[(0, .ptr 10000 0),(1,eN i),(5, .ptr 5 0),(20, .d (sP d.pts)),(21,eN d.pts.length),(22,eN k)], [(5, .box [eN (g.es.getD i (0,0)).1,eN (g.es.getD i (0,0)).2]),(10000,lkO g d)]⟩) (fun k=>d.pts.length - k) 0 (by simp[oq]) ?_ ?_
 ·(refine Le.of ?_ ?_<;>simp[go_sem,simprocAttr])
 rintro k ⟨hk,hf⟩
 rcases adj k d.pts.length with hlt|hge
 ·have hb:decide ((k:Int)<(d.pts.length:Int))=true:=ac6 (by omega)
  have dw:=Bi (g:=g) (d:=d) (i:=i) (k:=k)
  rw[hf,aeo]at dw
  repeat' (first|refine Rn.p ?_|((first|refine Rs.p ?_|with_reducible intro K hK|(refine hK _ ?_;clear hK K)|refine aa (ME (d.ls.getD i []) (d.pts.getD k (0,0)) h1 hl) rfl ?_);try simp only[go_sem,simprocAttr,hb])|with_reducible (first|apply And.intro|refine oD (by kernel_rfl) ?_|(intro h;try simp only[go_sem,simprocAttr,hb]at h))|omega)
  ·rw[kL,oq]
   refine(we hlt ?_).symm
   simp only[*,decide_false,afp,aeK,aet]
  all_goals(
   refine⟨k+1,⟨by omega, ?_⟩, ?_,by omega⟩
   ·rw[dw];simp only[*,decide_true,afd,afn,afs]
   ·(refine Le.of ?_ ?_<;>simp[go_sem,simprocAttr,hb]))
 ·have hb:decide ((k:Int)<(d.pts.length:Int))=false:=ac5 (by omega)
  obtain rfl:k=d.pts.length:=by omega
  repeat' (first|refine Rn.p ?_|((first|refine Rs.p ?_|with_reducible intro K hK|(refine hK _ ?_;clear hK K));try simp only[go_sem,simprocAttr,hb]))
  ·exact hf.symm
end Go.Ab
end
