/- A part of the proof. -/
import Derived.Test.YtjmaiddbinlooaaGreatL8P16
set_option linter.unusedSimpArgs false
set_option linter.unusedVariables false
section
namespace Go.Ab
open Go.Proofs
attribute [local congr] ACall.congr
set_option maxRecDepth 20000
set_option maxHeartbeats 8000000
def Bf (g:Gr) (b:Br):Bool:=decide (80<(g.es.length:Int))||decide (70<(b.y.length:Int))||decide (70<(b.fr.length:Int))||decide (70<(b.to.length:Int))||decide (80<(b.x.length:Int))
theorem xe (g:Gr) (b:Br):Spec Tryz.prog 39 (Args [eG g,aI b]) [] (eB (Bf g b)) []:=by
 have hf:Bf g b=(decide (80<(g.es.length:Int))||decide (70<(b.y.length:Int))||decide (70<(b.fr.length:Int))||decide (70<(b.to.length:Int))||decide (80<(b.x.length:Int))):=rfl
 cases h1:decide (80<(g.es.length:Int))<;>cases h2:decide (70<(b.y.length:Int))<;>cases h3:decide (70<(b.fr.length:Int))<;>cases h4:decide (70<(b.to.length:Int))<;>rw [h1,h2,h3,h4] at hf<;>simp only [Bool.or_true,Bool.or_false,Bool.true_or,Bool.false_or] at hf<;>rw [hf]
 all_goals (
 (refine Spec.intro (C:=T.cfg [] []) (rs:= [.t 4]) (T.aj _ _) Tryz.func39 rfl rfl Tryz.ntmps39 Tryz.results39 (by simp [AObj.isNest]) (by simp [AObj.isNest]) (by kernel_rfl) ?_;intro X hX hP hC aD aF vals hA;refine ⟨_,by simp,hA, ?_⟩;have af:X.P.follows .mixedOrders=true:=(by rw [hP];exact T.mixed);clear aD aF)
 repeat' (first|((first|((with_reducible (first|apply oA|apply oB));exact rfl;intro K hK)|(refine hK _ ?_;clear hK K)|((with_reducible (first|apply oG|apply oH));iterate 3 exact rfl)|((with_reducible apply oI);(iterate 2 exact rfl);intro K hK)|(with_reducible (first|apply wI|apply wJ|apply wK)));try simp only [go_sem,simprocAttr,aI,h1,h2,h3,h4])|(with_reducible (first|apply oC|apply oJ|exact oK|apply wA|apply wB|apply wC hX hC|apply wD hX hC|apply wE hX hC af|apply wF hX hC af|apply wG|apply wH|apply And.intro))|((with_reducible refine oD ?_ ?_);kernel_rfl)|((with_reducible (first|apply oE|apply oF));(iterate 3 exact rfl);all_goals (intro h;first|(exact absurd h (by decide))|((try simp only [go_sem,simprocAttr,aI,h1,h2,h3,h4] at h);(try with_reducible intro K hK);simp only [go_sem,simprocAttr,aI,h1,h2,h3,h4])))|((first|((with_reducible apply wL);exact rfl)|((with_reducible apply wM);exact rfl));all_goals (try ((with_reducible intro h);first|(exact absurd h (by decide))|(try simp only [go_sem,simprocAttr,aI,h1,h2,h3,h4] at h))))|omega|(intro h)))
theorem CC (b:Br):Spec Tryz.prog 43 (Args [aI b]) [] (aI b) []:=by
 (refine Spec.intro (C:=T.cfg [] []) (rs:= [.c 2 64]) (T.aj _ _) Tryz.func43 rfl rfl Tryz.ntmps43 Tryz.results43 (by simp [AObj.isNest]) (by simp [AObj.isNest]) (by kernel_rfl) ?_;intro X hX hP hC aD aF vals hA;refine ⟨_,by simp,hA, ?_⟩;have af:X.P.follows .mixedOrders=true:=(by rw [hP];exact T.mixed);clear aD aF)
 repeat' (first|((first|((with_reducible (first|apply oA|apply oB));exact rfl;intro K hK)|(refine hK _ ?_;clear hK K)|((with_reducible (first|apply oG|apply oH));iterate 3 exact rfl)|((with_reducible apply oI);(iterate 2 exact rfl);intro K hK)|(with_reducible (first|apply wI|apply wJ|apply wK)));try simp only [go_sem,simprocAttr,aI])|(with_reducible (first|apply oC|apply oJ|exact oK|apply wA|apply wB|apply wC hX hC|apply wD hX hC|apply wE hX hC af|apply wF hX hC af|apply wG|apply wH|apply And.intro))|((with_reducible refine oD ?_ ?_);kernel_rfl)|((with_reducible (first|apply oE|apply oF));(iterate 3 exact rfl);all_goals (intro h;first|(exact absurd h (by decide))|((try simp only [go_sem,simprocAttr,aI] at h);(try with_reducible intro K hK);simp only [go_sem,simprocAttr,aI])))|((first|((with_reducible apply wL);exact rfl)|((with_reducible apply wM);exact rfl));all_goals (try ((with_reducible intro h);first|(exact absurd h (by decide))|(try simp only [go_sem,simprocAttr,aI] at h))))|omega|(intro h))
theorem Nc:M8 g18 I2=⟨[0,1,1,2], [0,0,1,0], [1,0,1,1], [0,0,1,1]⟩:=by rfl
theorem Nd:cB g18 ⟨[0,1,1,2], [0,0,1,0], [1,0,1,1], [0,0,1,1]⟩=true:=by rfl
theorem KH:cA g18 I2:=(u9 Ky (b:=true) rfl).1
theorem jE:Spec Tryz.prog 35 (Args []) [] (eB true) []:=by
 have IW:=Cz g18 I2 (by decide) KH (by decide) (by decide) (by decide) true Ky
 rw [Nc] at IW
 have N8:=pL g18 ⟨[0,1,1,2], [0,0,1,0], [1,0,1,1], [0,0,1,1]⟩ (by decide) (by decide) (by decide)
 rw [Nd] at N8
 have e1:g18.es.map rE= [[.sc (.int .i64 0), .sc (.int .i64 1)], [.sc (.int .i64 1), .sc (.int .i64 3)], [.sc (.int .i64 0), .sc (.int .i64 2)], [.sc (.int .i64 2), .sc (.int .i64 3)]]:=rfl
 have e2:I2.ord.map rI= [[.sc (.int .i64 0)], [.sc (.int .i64 1)], [.sc (.int .i64 2)], [.sc (.int .i64 3)]]:=rfl
 have e3:vI I2.outs= [[.sl 1 [[.sc (.int .i64 0)], [.sc (.int .i64 2)]]], [.sl 1 [[.sc (.int .i64 1)]]], [.sl 1 [[.sc (.int .i64 3)]]], [.sl 1 []]]:=rfl
 have e4:g18.n=4:=rfl
 (refine Spec.intro (C:=T.cfg [] []) (rs:= [.t 0]) (T.aj _ _) Tryz.func35 rfl rfl Tryz.ntmps35 Tryz.results35 (by simp [AObj.isNest]) (by simp [AObj.isNest]) (by kernel_rfl) ?_;intro X hX hP hC aD aF vals hA;refine ⟨_,by simp,hA, ?_⟩;have af:X.P.follows .mixedOrders=true:=(by rw [hP];exact T.mixed);clear aD aF)
 repeat' (first|((first|((with_reducible (first|apply oA|apply oB));exact rfl;intro K hK)|(refine hK _ ?_;clear hK K)|((with_reducible (first|apply oG|apply oH));iterate 3 exact rfl)|((with_reducible apply oI);(iterate 2 exact rfl);intro K hK)|(with_reducible (first|apply wI|apply wJ|apply wK)));try simp only [go_sem,simprocAttr,aI,e1,e2,e3,e4,List.map_cons,List.map_nil,rI,decide_true])|(with_reducible (first|apply oC|apply oJ|exact oK|apply wA|apply wB|apply wC hX hC|apply wD hX hC|apply wE hX hC af|apply wF hX hC af|apply wG|apply wH|apply And.intro))|((with_reducible refine oD ?_ ?_);kernel_rfl)|((with_reducible (first|apply oE|apply oF));(iterate 3 exact rfl);all_goals (intro h;first|(exact absurd h (by decide))|((try simp only [go_sem,simprocAttr,aI,e1,e2,e3,e4,List.map_cons,List.map_nil,rI,decide_true] at h);(try with_reducible intro K hK);simp only [go_sem,simprocAttr,aI,e1,e2,e3,e4,List.map_cons,List.map_nil,rI,decide_true])))|((first|((with_reducible apply wL);exact rfl)|((with_reducible apply wM);exact rfl));all_goals (try ((with_reducible intro h);first|(exact absurd h (by decide))|(try simp only [go_sem,simprocAttr,aI,e1,e2,e3,e4,List.map_cons,List.map_nil,rI,decide_true] at h))))|omega|((first|(refine bh hX hC hP (IW) rfl rfl rfl ?_ ?_ rfl ?_;iterate 2 (focus (simp only [go_sem,simprocAttr,aI,e1,e2,e3,e4,List.map_cons,List.map_nil,rI,decide_true];done)))|(refine bh hX hC hP (jx [0,1,1,2] [0,1,1,2] (by decide)) rfl rfl rfl ?_ ?_ rfl ?_;iterate 2 (focus (simp only [go_sem,simprocAttr,aI,e1,e2,e3,e4,List.map_cons,List.map_nil,rI,decide_true];done)))|(refine bh hX hC hP (jx [1,0,1,1] [1,0,1,1] (by decide)) rfl rfl rfl ?_ ?_ rfl ?_;iterate 2 (focus (simp only [go_sem,simprocAttr,aI,e1,e2,e3,e4,List.map_cons,List.map_nil,rI,decide_true];done)))|(refine bh hX hC hP (jx [0,0,1,1] [0,0,1,1] (by decide)) rfl rfl rfl ?_ ?_ rfl ?_;iterate 2 (focus (simp only [go_sem,simprocAttr,aI,e1,e2,e3,e4,List.map_cons,List.map_nil,rI,decide_true];done)))|(refine bh hX hC hP (N8) rfl rfl rfl ?_ ?_ rfl ?_;iterate 2 (focus (simp only [go_sem,simprocAttr,aI,e1,e2,e3,e4,List.map_cons,List.map_nil,rI,decide_true];done))));try simp only [go_sem,simprocAttr,aI,e1,e2,e3,e4,List.map_cons,List.map_nil,rI,decide_true])|(intro h))
end Go.Ab
end
section
namespace Go.Ab
open Go.Proofs
set_option maxRecDepth 10000
structure tT (g:Gr) (b:Br):Prop where
 xq:(bJ g).1=0
 ly:(b.y.length:Int)=g.n
 lf:(b.fr.length:Int)=g.n
 lt:(b.to.length:Int)=g.n
 lx:b.x.length=g.es.length
 N9:∀v,v<b.y.length→b.fr.getD v 0≤b.to.getD v 0
 apart:∀v,v<b.y.length→∀z,z<v→¬(b.y.getD z 0=b.y.getD v 0∧b.fr.getD z 0≤b.to.getD v 0∧b.fr.getD v 0≤b.to.getD z 0)
 up:∀i,i<g.es.length→b.y.getD (tl g i).toNat 0<b.y.getD (hd g i).toNat 0∧(b.fr.getD (tl g i).toNat 0≤b.x.getD i 0∧b.x.getD i 0≤b.to.getD (tl g i).toNat 0)∧(b.fr.getD (hd g i).toNat 0≤b.x.getD i 0∧b.x.getD i 0≤b.to.getD (hd g i).toNat 0)
 clear:∀i,i<g.es.length→∀v,v<b.y.length→¬(b.y.getD (tl g i).toNat 0<b.y.getD v 0∧b.y.getD v 0<b.y.getD (hd g i).toNat 0∧b.fr.getD v 0≤b.x.getD i 0∧b.x.getD i 0≤b.to.getD v 0)
 KI:∀i,i<g.es.length→∀k,k<i→¬(b.x.getD k 0=b.x.getD i 0∧b.y.getD (tl g i).toNat 0<b.y.getD (hd g k).toNat 0∧b.y.getD (tl g k).toNat 0<b.y.getD (hd g i).toNat 0)
theorem vv {g:Gr} {b:Br} :cB g b=true↔tT g b:=by
 unfold cB nk kR
 simp only [List.all_eq_true,List.mem_range,Bool.and_eq_true,decide_eq_true_eq,Iu,EY,Fz,CB,dU,xd,hasB,Bool.not_eq_true',Bool.and_eq_false_iff,decide_eq_false_iff_not]
 constructor
 ·rintro ⟨⟨⟨h1,⟨⟨h2,h3⟩,h4⟩,h5⟩,h6⟩,h7⟩
  exact ⟨h1,h2,h3,h4,by omega,fun v hv=>(h6 v hv).1,fun v hv z hz=>by have:=(h6 v hv).2 z hz;omega,fun i hi=>by have:=(h7 i hi).1.1;omega,fun i hi v hv=>by have:=(h7 i hi).1.2 v hv;omega,fun i hi k hk=>by have:=(h7 i hi).2 k hk;omega⟩
 ·rintro ⟨h1,h2,h3,h4,h5,h6,h7,h8,h9,Mr⟩
  exact ⟨⟨⟨h1,⟨⟨h2,h3⟩,h4⟩,by omega⟩,fun v hv=>⟨h6 v hv,fun z hz=>by have:=h7 v hv z hz;omega⟩⟩,fun i hi=>⟨⟨by have:=h8 i hi;omega,fun v hv=>by have:=h9 i hi v hv;omega⟩,fun k hk=>by have:=Mr i hi k hk;omega⟩⟩
def Oa (b:Br):Br:=⟨b.y.map fun y=>3*y - 7,(List.range b.y.length).map fun v=>5*b.fr.getD v 0+1,(List.range b.y.length).map fun v=>5*b.to.getD v 0+2,b.x.map fun x=>5*x+1⟩
def Ob (b:Br):Br:=⟨b.y,(List.range b.y.length).map fun v=> -b.to.getD v 0,(List.range b.y.length).map fun v=> -b.fr.getD v 0,b.x.map fun x=> -x⟩
end Go.Ab
end
section
namespace Go.Ab
open Go.Proofs
set_option maxRecDepth 10000
set_option linter.unusedSectionVars false
def yB (b:Br) (v:Int):Int:=b.y.getD v.toNat 0
def fB (b:Br) (v:Int):Int:=b.fr.getD v.toNat 0
def tB (b:Br) (v:Int):Int:=b.to.getD v.toNat 0
def xB (b:Br) (e:Int):Int:=b.x.getD e.toNat 0
def yW (b:Br) (u v:Int):Prop:=yB b u<yB b v∨yB b u=yB b v∧fB b u<fB b v
structure qM (g:Gr) (b:Br) (p:Pl):Prop where
 perm:p.ord.Perm (eD g.n.toNat)
 sort:p.ord.Pairwise (yW b)
 len:p.outs.length=g.n.toNat
 outs:∀x:Nat,x<g.n.toNat→(p.outs.getD x []).Perm (bn g x)
 G7:∀x:Nat,x<g.n.toNat→(p.outs.getD x []).Pairwise fun i k=>xB b i<xB b k
section
variable {g:Gr} {b:Br} {p:Pl} (h:tT g b) (hp:qM g b p)
include hp
theorem qM.ok:bw g p:=⟨hp.len,hp.perm,hp.outs⟩
theorem qM.lt {j k:Nat} (hj:j<k) (hk:k<g.n.toNat):yW b (aq p j) (aq p k):=by
 have hl:=bK hp.ok
 have:=List.pairwise_iff_getElem.1 hp.sort j k (by omega) (by omega) hj
 rw [aq,aq,List.getD_eq_getElem?_getD,List.getD_eq_getElem?_getD,List.getElem?_eq_getElem (by omega),List.getElem?_eq_getElem (by omega)]
 exact this
include h
theorem nW {e:Int} (h0:0≤e) (h1:e<g.es.length):yB b (iA g e)<yB b (mP g e)∧(fB b (iA g e)≤xB b e∧xB b e≤tB b (iA g e))∧(fB b (mP g e)≤xB b e∧xB b e≤tB b (mP g e)):=h.up e.toNat (by omega)
theorem vA {u v:Int} (hu:lp g u) (hv:lp g v) (hne:u≠v) (hy:yB b u=yB b v) {q:Int} (h1:fB b u≤q) (h2:q≤tB b u) (h3:fB b v≤q) (h4:q≤tB b v):False:=by
 have hl:=h.ly
 have CO:=hu.1;have Oc:=hu.2;have qx:=hv.1;have za:=hv.2
 unfold yB at hy;unfold fB at h1 h3;unfold tB at h2 h4
 rcases Nat.lt_or_ge u.toNat v.toNat with hlt|hge
 ·exact h.apart v.toNat (by omega) u.toNat hlt ⟨hy,by omega,by omega⟩
 ·exact h.apart u.toNat (by omega) v.toNat (by omega) ⟨hy.symm,by omega,by omega⟩
theorem Bg {v:Int} (hv:lp g v) {k:Nat} (hn:v∉p.ord.take k):∃l,k≤l∧l<g.n.toNat∧aq p l=v:=by
 obtain ⟨l,hl,e⟩:=fW hp.ok hv.1 hv.2
 refine ⟨l,Nat.le_of_not_lt fun hlt=>hn ?_,hl,e⟩
 rw [← e];exact Co hlt (by rw [bK hp.ok];exact hl)
theorem xg {k:Nat} (hk:k<g.n.toNat) {a:Int} (ha:qk g p k a) (hne:mP g a≠aq p k):¬(fB b (aq p k)≤xB b a∧xB b a≤tB b (aq p k)):=by
 rintro ⟨q1,q2⟩
 have hm:=aA h.xq
 have hx:lp g (aq p k):=aM hp.ok hk
 have ht:lp g (iA g a):=bN hm (i:=a.toNat) (by have:=ha.e0;have:=ha.e1;omega)
 have hh:lp g (mP g a):=cn hm (i:=a.toNat) (by have:=ha.e0;have:=ha.e1;omega)
 obtain ⟨u1,⟨u2,u3⟩,u4,u5⟩:=nW h hp ha.e0 ha.e1
 obtain ⟨j,j1,_,j3⟩:=vk ha.low
 obtain ⟨l,l1,l2,l3⟩:=Bg h hp hh ha.top
 have hlk:k<l:=by
  rcases Nat.lt_or_ge k l with h1|h1
  ·exact h1
  ·exact absurd (by rw [← l3,show l=k by omega]) hne
 have c1:=hp.lt j1 hk
 have c2:=hp.lt hlk l2
 rw [j3] at c1
 rw [l3] at c2
 have n1:iA g a≠aq p k:=fun e=>vl hp.ok hk (e ▸ ha.low)
 by_cases e1:yB b (iA g a)=yB b (aq p k)
 ·exact vA h hp ht hx n1 e1 u2 u3 q1 q2
 by_cases e2:yB b (mP g a)=yB b (aq p k)
 ·exact vA h hp hh hx hne e2 u4 u5 q1 q2
 have d1:yB b (iA g a)<yB b (aq p k):=by unfold yW at c1;omega
 have d2:yB b (aq p k)<yB b (mP g a):=by unfold yW at c2;omega
 have hl:=h.ly
 exact h.clear a.toNat (by have:=ha.e0;have:=ha.e1;omega) (aq p k).toNat (by have:=hx.1;have:=hx.2;omega) ⟨d1,d2,q1,q2⟩
theorem CD:EB g p fun _ i k=>xB b i<xB b k:=by
 have hm:=aA h.xq
 have hout:∀k,k<g.n.toNat→∀i∈bH p (aq p k),fB b (aq p k)≤xB b i∧xB b i≤tB b (aq p k):=fun k hk i hi=>by
  obtain ⟨x0,x1⟩:=aM hp.ok hk
  obtain ⟨⟨i0,i1⟩,i2⟩:=bL.1 ((bP hp.ok x0 x1).mem_iff.1 hi)
  have:=(nW h hp i0 i1).2.1
  rwa [show iA g i=aq p k from i2] at this
 refine ⟨fun e e0 e1 k hk ek=> ?_,fun k hk a c d ha hc hd ea ed r1 r2=> ?_,fun k hk a c ha hc na nc r=>r,fun k hk a c d ha hc na ec hd r=> ?_,fun k hk a c d ha hc na ec hd r=> ?_,fun k hk=> ?_⟩
 ·have u1:=(nW h hp e0 e1).1
  refine Decidable.byContradiction fun hn=> ?_
  obtain ⟨l,l1,l2,l3⟩:=Bg h hp (bN hm (i:=e.toNat) (by omega)) hn
  have l3:aq p l=iA g e:=l3
  rcases Nat.lt_or_ge k l with h1|h1
  ·have:=hp.lt h1 l2
   rw [l3,ek] at this
   unfold yW at this;omega
  ·rw [← l3, ← ek,show l=k by omega] at u1
   omega
 ·refine Decidable.byContradiction fun hn=>xg h hp hk hc hn ?_
  have u1:=(nW h hp ha.e0 ha.e1).2.2
  have u2:=(nW h hp hd.e0 hd.e1).2.2
  rw [ea] at u1
  rw [ed] at u2
  omega
 ·have u1:=(nW h hp hc.e0 hc.e1).2.2
  rw [ec] at u1
  have u2:=hout k hk d hd
  have u3:=xg h hp hk ha na
  omega
 ·have u1:=(nW h hp hc.e0 hc.e1).2.2
  rw [ec] at u1
  have u2:=hout k hk d hd
  have u3:=xg h hp hk ha na
  omega
 ·obtain ⟨x0,x1⟩:=aM hp.ok hk
  exact hp.G7 (aq p k).toNat (by omega)
theorem CE:cA g p:=Cq h.xq hp.ok (CD h hp)
end
end Go.Ab
end
section
namespace Go.Ab
open Go.Proofs
set_option maxRecDepth 10000
set_option linter.unusedSectionVars false
def Bh (lt:Int→Int→Bool) (us:List Int):Nat→Int
 |0=> -1
 |k+1=>if (!decide ((k:Int)∈us))&&(decide (Bh lt us k<0)||lt k (Bh lt us k)) then k else Bh lt us k
def KJ (lt:Int→Int→Bool) (n:Nat):Nat→List Int
 |0=> []
 |j+1=>KJ lt n j++ [Bh lt (KJ lt n j) n]
def Qc (lt:Int→Int→Bool) (u v:Int):Prop:=lt u v=true∧lt v u=false
section
variable {lt:Int→Int→Bool} {n:Nat} {ord:List Int} (hp:ord.Perm (eD n)) (hs:ord.Pairwise (Qc lt))
include hp hs
end
def uq (sw:Int→Int→Bool):Int→List Int→Int × List Int
 |a, []=>(a, [])
 |a,c::r=>if sw a c then ((uq sw c r).1,a::(uq sw c r).2) else ((uq sw a r).1,c::(uq sw a r).2)
def G8 (sw:Int→Int→Bool):Nat→List Int→List Int
 |0,l=>l
 |_+1, []=> []
 |n+1,a::r=>(uq sw a r).1::G8 sw n (uq sw a r).2
theorem ja {sw:Int→Int→Bool} :∀ {l:List Int} {a:Int},((uq sw a l).1::(uq sw a l).2).Perm (a::l)
 | [],a=>List.Perm.refl _
 |c::r,a=>by
  rw [uq]
  split
  ·exact (List.Perm.swap ..).trans ((List.Perm.cons a (ja (l:=r) (a:=c))))
  ·exact (List.Perm.swap ..).trans ((List.Perm.cons c (ja (l:=r) (a:=a))).trans (List.Perm.swap ..))
theorem Gz {sw:Int→Int→Bool} {l:List Int} {a:Int} :(uq sw a l).2.length=l.length:=by
 have:=(ja (sw:=sw) (l:=l) (a:=a)).length_eq
 simpa using this
theorem pM {sw:Int→Int→Bool} :∀ {n:Nat} {l:List Int},(G8 sw n l).Perm l
 |0,l=>List.Perm.refl _
 |_+1, []=>List.Perm.refl _
 |n+1,a::r=>by
  rw [G8]
  exact (List.Perm.cons _ pM).trans ja
section
variable {sw:Int→Int→Bool} {R:Int→Int→Prop} {S:Int→Prop} (htr:∀a b c,S a→S b→S c→R a b→R b c→R a c) (hsw:∀a c,S a→S c→a≠c→if sw a c=true then R c a else R a c)
include htr hsw
theorem xh:∀ {l:List Int} {a:Int},(a::l).Nodup→(∀x∈a::l,S x)→((uq sw a l).1=a∨R (uq sw a l).1 a)∧∀y∈(uq sw a l).2,R (uq sw a l).1 y
 | [],a,_,_=>⟨.inl rfl,fun y hy=>by cases hy⟩
 |c::r,a,hn,hS=>by
  have hac:a≠c:=fun e=>by subst e;simp at hn
  have h0:=hsw a c (hS a (by simp)) (hS c (by simp)) hac
  have n1:(c::r).Nodup:=(List.nodup_cons.1 hn).2
  have n2:(a::r).Nodup:=by
   rw [List.nodup_cons] at hn ⊢
   exact ⟨fun h=>hn.1 (by simp [h]),(List.nodup_cons.1 hn.2).2⟩
  rw [uq]
  split at h0<;>rename_i hs
  ·rw [if_pos hs]
   obtain ⟨h1,h2⟩:=xh (l:=r) (a:=c) n1 fun x hx=>hS x (by simp at hx ⊢;rcases hx with h|h<;>simp [h])
   have Nf:S (uq sw c r).1:=hS _ (by have:=(ja (sw:=sw) (l:=r) (a:=c)).mem_iff.1 (List.mem_cons_self ..);simp at this ⊢;rcases this with h|h<;>simp [h])
   have hma:R (uq sw c r).1 a:=by
    rcases h1 with h1|h1
    ·rw [h1];exact h0
    ·exact htr _ _ _ Nf (hS c (by simp)) (hS a (by simp)) h1 h0
   exact ⟨.inr hma,fun y hy=>(List.mem_cons.1 hy).elim (fun e=>e ▸ hma) (h2 y)⟩
  ·rw [if_neg hs]
   obtain ⟨h1,h2⟩:=xh (l:=r) (a:=a) n2 fun x hx=>hS x (by simp at hx ⊢;rcases hx with h|h<;>simp [h])
   have Nf:S (uq sw a r).1:=hS _ (by have:=(ja (sw:=sw) (l:=r) (a:=a)).mem_iff.1 (List.mem_cons_self ..);simp at this ⊢;rcases this with h|h<;>simp [h])
   have Fu:R (uq sw a r).1 c:=by
    rcases h1 with h1|h1
    ·rw [h1];exact h0
    ·exact htr _ _ _ Nf (hS a (by simp)) (hS c (by simp)) h1 h0
   exact ⟨h1,fun y hy=>(List.mem_cons.1 hy).elim (fun e=>e ▸ Fu) (h2 y)⟩
theorem nZ:∀ {n:Nat} {l:List Int},l.length≤n→l.Nodup→(∀x∈l,S x)→(G8 sw n l).Pairwise R
 |0,l,h,_,_=>by
  have:l= []:=List.eq_nil_of_length_eq_zero (by omega)
  subst this;exact List.Pairwise.nil
 |n+1, [],_,_,_=>List.Pairwise.nil
 |n+1,a::r,h,hn,hS=>by
  rw [G8,List.pairwise_cons]
  have hp:=ja (sw:=sw) (l:=r) (a:=a)
  refine ⟨fun y hy=>(xh htr hsw hn hS).2 y (pM.mem_iff.1 hy),nZ (by rw [Gz];simpa using h) (List.nodup_cons.1 (hp.nodup_iff.2 hn)).2 fun x hx=>hS x (hp.mem_iff.1 (by simp [hx]))⟩
end
def Q2 (sw:Int→Int→Bool) (a:Int) (done todo:List Int):List Int:=(uq sw a todo).1::G8 sw (done.length+todo.length) (done++(uq sw a todo).2)
end Go.Ab
end
