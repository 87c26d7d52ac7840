/- A part of the proof. -/
import Derived.Test.YtjmaiddbinlooaaGreatL1P15
set_option linter.unusedSimpArgs false
set_option linter.unusedVariables false
section
namespace Go.Ab
open Go.Proofs
attribute [local congr] ACall.congr
set_option maxRecDepth 60000
set_option maxHeartbeats 8000000
structure Fc where
 L:List Int
 R:List Int
 lo:List Int
 hi:List Int
def lR (g:Gr)(p:Pl)(f:Int):Int:=if f= -1 then (cK p g.n.toNat:Int)else f
def ER (g:Gr)(p:Pl):Fc:=⟨arr (LK g p g.n.toNat)g.es.length,(arr (RK g p (-1)g.n.toNat)g.es.length).map (lR g p),iy p g.n.toNat++ [az p 0],xS g p g.n.toNat++ [az p (g.n.toNat - 1)]⟩
def qp:Fc:=⟨[], [], [], []⟩
def DR (b:Bool)(g:Gr)(p:Pl):Fc × Int:=if ((bP b g p).2.1=0∧kB g=true)∧0<g.es.length then (ER g p,0)else (qp,1)
def fM (f:Fc):AV:= .agg [.d (sI f.L), .d (sI f.R), .d (sI f.lo), .d (sI f.hi)]
def lf (l:List Int)(f:Int→Int)(j:Nat):List Int:=(l.take j).map f++l.drop j
theorem Dt {l:List Int} {f:Int→Int} {j:Nat} :(lf l f j).length=l.length:=by
 simp only [lf,List.length_append,List.length_map,List.length_take,List.length_drop];omega
theorem uo {l:List Int} {f:Int→Int} {j:Nat} (h:j<l.length):lf l f (j+1)=(lf l f j).set j (f (l.getD j 0)):=by
 have h1:((l.take j).map f).length=j:=by simp;omega
 have e:l.getD j 0=l[j]:=by rw [List.getD_eq_getElem?_getD,List.getElem?_eq_getElem h];rfl
 unfold lf
 have e2:l.take (j+1)=l.take j++ [l[j]]:=by rw [List.take_add_one,List.getElem?_eq_getElem h];rfl
 rw [List.drop_eq_getElem_cons h,List.set_append,h1,if_neg (by omega),Nat.sub_self,List.set_cons_zero,e2,e,List.map_append,List.append_assoc]
 rfl
theorem zS {l:List Int} {f:Int→Int} {j:Nat} (h:j<l.length):(lf l f j).getD j 0=l.getD j 0:=by
 have h1:((l.take j).map f).length=j:=by simp;omega
 unfold lf
 rw [List.getD_eq_getElem?_getD,List.getElem?_append_right (by omega),h1,Nat.sub_self,List.drop_eq_getElem_cons h,List.getD_eq_getElem?_getD,List.getElem?_eq_getElem h];rfl
theorem Du {l:List Int} {f:Int→Int} :lf l f l.length=l.map f:=by simp [lf]
theorem Ba {l:List Int} {f:Int→Int} {j:Nat} (h:j<l.length)(hf:f (l.getD j 0)=l.getD j 0):lf l f (j+1)=lf l f j:=by
 rw [uo h,hf]
 refine List.ext_getElem? fun i=> ?_
 rw [List.getElem?_set]
 split
 ·rename_i e;subst e
  split
  ·have:=zS (l:=l)(f:=f)h
   rename_i hl
   rw [List.getD_eq_getElem?_getD,List.getElem?_eq_getElem hl] at this
   rw [List.getElem?_eq_getElem hl]
   simpa using this.symm
  ·rename_i hl;rw [List.getElem?_eq_none (by omega)]
 ·rfl
theorem Bb {g:Gr} {p:Pl} (h:cC g p):0<(bJ (·.2)g).length∧(bJ (·.2)g).getD 0 0=az p 0:=by
 have hn:=aV (aF h.1)
 have h0:=aN h.2.1 (k:=0)(by omega)
 have hm:az p 0∈bJ (·.2)g:=lI.2⟨h0,fW h⟩
 have hl:=List.length_pos_of_mem hm
 refine⟨hl, ?_⟩
 have:=lI.1 (bt (l:=bJ (·.2)g)(m:=0)(d:=0)hl)
 exact nP h.1 this.1 h0 this.2 (fW h)
theorem Bc {g:Gr} {p:Pl} (h:cC g p)(hI:kB g=true):0<(bJ (·.1)g).length∧(bJ (·.1)g).getD 0 0=az p (g.n.toNat - 1):=by
 have hn:=aV (aF h.1)
 have h0:=aN h.2.1 (k:=g.n.toNat - 1)(by omega)
 have hm:az p (g.n.toNat - 1)∈bJ (·.1)g:=lJ.2⟨h0,(nT h.2.1 h0.1 h0.2).2 (oZ h).1⟩
 have hl:=List.length_pos_of_mem hm
 refine⟨hl, ?_⟩
 have:=lJ.1 (bt (l:=bJ (·.1)g)(m:=0)(d:=0)hl)
 exact (ez h hI this.1).1 ((nT h.2.1 this.1.1 this.1.2).1 this.2)
theorem Fj {g:Gr} {p:Pl} (h:cC g p):∀ {k:Nat},k≤g.n.toNat→cK p k≤1+k*g.es.length
 |0,_=>by simp [cK]
 |k+1,hk=>by
  have:=Fj h (k:=k)(by omega)
  have hx:=aN h.2.1 (show k<g.n.toNat by omega)
  have:=j6 h.2.1 hx.1 hx.2
  rw [cK,Nat.add_mul];omega
theorem pR {g:Gr} {p:Pl} (h:cC g p) {k:Nat} (hk:k≤g.n.toNat):cK p k≤100000∧(∀x:Int,(bL p x).length≤100000∨¬pQ g x):=by
 have hn:=aV (aF h.1)
 have h1:=Fj h hk
 have h2:k*g.es.length≤64*128:=Nat.mul_le_mul (by omega)(by omega)
 refine⟨by omega,fun x=> ?_⟩
 by_cases hx:pQ g x
 ·have:=j6 h.2.1 hx.1 hx.2;exact .inl (by omega)
 ·exact .inr hx
theorem Bd (g:Gr)(p:Pl)(hp:pO p)(hrun:cC g p)(hI:kB g=true)(hm0:0<g.es.length)(b:Bool)(hr:b=true↔(cr g).1=0∧bF g p):
  Spec Tryz.prog 17 (Args [eG g,ePl p]) [](.tup [fM (ER g p),eN 0]) []:=by
 have hm:=aF hrun.1
 have hn:=aV hm
 have hle:=cg hrun.2.1
 have hO:=me g (by omega)p hp b hr
 have Gl:=sH g (by omega)
 have Pe:=ga g hm
 have Pf:=dY g hm
 have Pg:=rV g hm
 obtain⟨hs1,uM⟩:=Bb hrun
 obtain⟨Ql,hs4⟩:=Bc hrun hI
 rw [sW hr hrun] at hO
 simp only at hO
 rw [hI] at Gl
 have hb0:decide ((g.es.length:Int)=0)=false:=decide_eq_false (by omega)
 have hn2:1<g.n.toNat:=by
  refine Decidable.byContradiction fun hc=> ?_
  have ht:=bK hm (i:=0)hm0
  have hh:=bX hm (i:=0)hm0
  obtain⟨j,hj,_⟩:=sN hrun (e:=0)(by omega)(k:=0)(by omega)(by
   obtain⟨k,hk,e⟩:=gh hrun.2.1 hh.1 hh.2
   obtain rfl:k=0:=by omega
   exact e.symm)
  omega
 obtain⟨s0,hs0⟩:∃s:Nat,az p 0=s:=by have:=aN hrun.2.1 (k:=0)(by omega);exact⟨(az p 0).toNat,by omega⟩
 have MA:s0<p.outs.length:=by have:=aN hrun.2.1 (k:=0)(by omega);have:=hrun.2.1.1;omega
 have qz:=j3 MA
 have MB:p.outs.getD s0 []=bL p (az p 0):=by unfold bL;rw [hs0,Int.toNat_natCast]
 rw [MB] at qz
 have Ph:=j6 hrun.2.1 (aN hrun.2.1 (k:=0)(by omega)).1 (aN hrun.2.1 (k:=0)(by omega)).2
 have Dj:=uk (az p 0)0 (-1)(bL p (az p 0))(.sl 1 [])(sI [0, -1])(arr (LK g p 0)g.es.length)(arr (RK g p (-1)0)g.es.length) [az p 0] [az p (g.n.toNat - 1)](by omega)(fun i hi=>by rw [c9];exact (iO hrun (by omega)hi).1)(by rw [c9,c9])(by simp)(by simp)
 have Nx:=JM hrun (k:=0)(by omega)
 have Ny:=JN (r:= -1)hrun (k:=0)(by omega)
 rw [if_pos rfl] at Nx Ny
 have JO:cH g p (az p 0)= []:=by
  have:=jE hrun (aN hrun.2.1 (k:=0)(by omega))
  rw [fW hrun] at this
  exact List.eq_nil_of_length_eq_zero this
 have hi1:xS g p 1= [az p (g.n.toNat - 1)]++List.replicate ((bL p (az p 0)).length - 1)0:=by
  have:sV g p 0= []:=by unfold sV;rw [JO];rfl
  show k9 (xS g p 0)(sV g p 0)(az p 0)(sV g p 0).length++_=_
  rw [this];rfl
 have MC:iy p 1= [az p 0]++List.replicate ((bL p (az p 0)).length - 1)(az p 0):=rfl
 have hc1:([az p 0]:List Int).length=cK p 0:=rfl
 rw [hc1,Nx,Ny, ← hi1, ← MC] at Dj
 have EJ:∀f:Int→Int,(∀e,f e=0)→List.replicate g.es.length [D.sc (.int .i64 0)]=(arr f g.es.length).map rI:=fun f hf=>by
  refine List.ext_getElem? fun i=> ?_
  simp only [arr,List.getElem?_replicate,List.getElem?_map]
  by_cases hi:i<g.es.length
  ·rw [if_pos hi,List.getElem?_range hi];simp [hf,rI]
  ·rw [if_neg hi,List.getElem?_eq_none (by simpa using hi)];rfl
 have fN:=EJ (LK g p 0)fun _=>rfl
 have MD:=kP (bL p (az p 0))(by omega)
 have ME:=iY [0, -1](ff (cK p 0)((bL p (az p 0)).length - 1))1 1 (by simp)(by simp)(by rw [jG];omega)
 have FQ:List.take 1 [(0:Int), -1]++ff (cK p 0)((bL p (az p 0)).length - 1)++List.drop 1 [(0:Int), -1]=ld g p 0:=rfl
 rw [FQ] at ME
 have Pj:RK g p (-1)0=LK g p 0:=by funext e;rfl
 rw [Pj] at Dj
 have EC:fB g p 0=bL p (az p 0):=rfl
 have MD:Spec Tryz.prog 53 (Args [.d (sI (bL p (s0:Int)))]) [](.d (sI (fB g p 0))) []:=by
  rw [EC, ← hs0];exact MD
 generalize Nz:arr (LK g p 0)g.es.length=A0 at Dj fN
 have qK:=jG (c:=cK p 0)(k:=(bL p (az p 0)).length - 1)
 generalize ff (cK p 0)((bL p (az p 0)).length - 1)=gs at Dj ME qK
 unfold GN GO at Dj
 have xI:List.drop 1 (List.map rI p.ord)=(p.ord.drop 1).map rI:=by rw [List.map_drop]
 have hdl:(p.ord.drop 1).length=g.n.toNat - 1:=by rw [List.length_drop];omega
 have xj:List.take p.ord.length (List.map rI p.ord)=List.map rI p.ord:=List.take_of_length_le (by simp)
 generalize KI:g.n.toNat - 1=N1 at hdl
 (refine Spec.intro (C:=T.cfg [67] [])(rs:= [.c 4 32, .t 5])(T.au _ _)Tryz.func17 rfl rfl Tryz.ntmps17 Tryz.results17 (by simp [AObj.isNest])(by simp [AObj.isNest])(by kernel_rfl) ?_;intro X hX hP hC aI aJ vals hA;refine⟨_,by simp,hA, ?_⟩;have af:X.P.follows .mixedOrders=true:=(by rw [hP];exact T.mixed);clear aI aJ)
 repeat' (first|fail|((first|((with_reducible (first|apply oA|apply oB));exact rfl;intro K hK)|(refine hK _ ?_;clear hK K)|((with_reducible (first|apply oG|apply oH));iterate 3 exact rfl)|((with_reducible apply oI);(iterate 2 exact rfl);intro K hK)|(with_reducible (first|apply wI|apply wJ|apply wK)));try simp only [go_sem,simprocAttr,hb0,uM,hs4,fN,hs0,qz,xI,hdl,rI])|(show dF _ (.seq (.region 8 _ _)_)_ _;(refine nG 54 0 1 rfl rfl rfl ?_;simp only [LA.app,ASt.put,ASt.kill,putM,rml,List.set_cons_zero,List.set_cons_succ,go_sem,simprocAttr,hb0,uM,hs4,fN,hs0,qz,xI,hdl,rI]);(refine dn hX 52 rfl ?_;simp only [go_sem,simprocAttr,hb0,uM,hs4,fN,hs0,qz,xI,hdl,rI]))|(with_reducible (first|apply oC|apply oJ|exact oK|apply wA|apply wB|apply wC hX hC|apply wD hX hC|apply wE hX hC af|apply wF hX hC af|apply wG|apply wH|apply And.intro))|((with_reducible refine oD ?_ ?_);first|fail|kernel_rfl)|((with_reducible (first|apply oE|apply oF));(iterate 3 exact rfl);all_goals (intro h;first|(exact absurd h (by decide))|((try simp only [go_sem,simprocAttr,hb0,uM,hs4,fN,hs0,qz,xI,hdl,rI] at h);(try with_reducible intro K hK);simp only [go_sem,simprocAttr,hb0,uM,hs4,fN,hs0,qz,xI,hdl,rI])))|((first|((with_reducible apply wL);exact rfl)|((with_reducible apply wM);exact rfl));all_goals (try ((with_reducible intro h);first|(exact absurd h (by decide))|(try simp only [go_sem,simprocAttr,hb0,uM,hs4,fN,hs0,qz,xI,hdl,rI] at h))))|omega|((first|first|refine aa hX hC hP (hO)rfl rfl rfl (by simp only [go_sem,simprocAttr,hb0,uM,hs4,fN,hs0,qz,xI,hdl,rI])rfl ?_|refine aa hX hC hP (Gl)rfl rfl rfl (by simp only [go_sem,simprocAttr,hb0,uM,hs4,fN,hs0,qz,xI,hdl,rI])rfl ?_|refine aa hX hC hP (Pe)rfl rfl rfl (by simp only [go_sem,simprocAttr,hb0,uM,hs4,fN,hs0,qz,xI,hdl,rI])rfl ?_|refine aa hX hC hP (Pf)rfl rfl rfl (by simp only [go_sem,simprocAttr,hb0,uM,hs4,fN,hs0,qz,xI,hdl,rI])rfl ?_|refine aa hX hC hP (Pg)rfl rfl rfl (by simp only [go_sem,simprocAttr,hb0,uM,hs4,fN,hs0,qz,xI,hdl,rI])rfl ?_|(refine aA hX hC hP [(10000,54),(10001,59),(10002,63),(10003,65),(10004,67),(10005,300),(10006,301)](Dj)rfl rfl rfl ?_ ?_ ?_ ?_ ?_ ?_ ?_ ?_ ?_ ?_ ?_ ?_ ?_ ?_;(focus (simp only [go_sem,simprocAttr,hb0,uM,hs4,fN,hs0,qz,xI,hdl,rI];done));(iterate 12 (focus (simp [go_sem,simprocAttr,hb0,uM,hs4,fN,hs0,qz,xI,hdl,rI];done)));simp only [go_sem,simprocAttr,hb0,uM,hs4,fN,hs0,qz,xI,hdl,rI,List.map_cons,List.map_nil])|refine aa hX hC hP (MD)rfl rfl rfl (by simp only [go_sem,simprocAttr,hb0,uM,hs4,fN,hs0,qz,xI,hdl,rI])rfl ?_|(refine bH hX hC hP (ME)rfl rfl rfl ?_ ?_ rfl ?_;iterate 2 (focus (simp only [go_sem,simprocAttr,hb0,uM,hs4,fN,hs0,qz,xI,hdl,rI];done))));try simp only [go_sem,simprocAttr,hb0,uM,hs4,fN,hs0,qz,xI,hdl,rI])|(intro h))
 refine an (fun j:Nat=>j≤N1)(fun j=>⟨[(3, .ptr 3 0),(4, .ptr 4 0),(6, .d (.sl 1 (vT (ee g p g.n.toNat)))),(10,eN s0),(11,eN (az p N1)),(12, .ptr 54 0),(106, .d (sI (p.ord.drop 1))),(107,eN N1),(108,eN j)], [(54, .box [.d (sI (fB g p j)), .d (sI (ld g p j)), .ref 59, .ref 63, .ref 300, .ref 301]),(59, .own 3 1 ((arr (LK g p (j+1))g.es.length).map rI)),(63, .own 3 1 ((arr (RK g p (-1)(j+1))g.es.length).map rI)),(300, .tip 3 1 ((iy p (j+1)).map rI)),(301, .own 3 1 ((xS g p (j+1)).map rI)),(3, .box [.d (sI p.ord), .d (.sl 1 (vI p.outs))]),(4, .box [.nil 3, .nil 3, .nil 3, .nil 3])]⟩)(fun j=>N1 - j)0 (by omega) ?_ ?_
 ·refine Le.of ?_ ?_<;>simp [go_sem,simprocAttr,KI,xj]
  omega
 rintro j hj
 rcases Nat.lt_or_ge j N1 with hjl|Ka
 ·have hb:decide ((j:Int)<(N1:Int))=true:=decide_eq_true (by omega)
  have hjn:j+1<g.n.toNat:=by omega
  obtain⟨a,p1,p2,p3,p4,p5,p6,p7⟩:=Ds hrun hI hjn
  have DP:=aN hrun.2.1 hjn
  have hx:(p.ord.drop 1).getD j 0=az p (j+1):=by
   rw [List.getD_eq_getElem?_getD,List.getElem?_drop,Nat.add_comm 1 j]
   show _=p.ord.getD (j+1)0
   rw [List.getD_eq_getElem?_getD]
  have ja:=fun i hi=>(iO hrun hjn (e:=i)hi).1
  have qO:=j6 hrun.2.1 DP.1 DP.2
  have JP:=nR hrun.2.1 (Nat.le_refl _)hjn
  have hel:=kX (g:=g)(p:=p)(k:=g.n.toNat)
  have NA:=Dn hrun hI hjn
  have hL:=JM hrun (k:=j+1)hjn
  have hR:=JN (r:= -1)hrun (k:=j+1)hjn
  rw [if_neg (by omega)] at hL hR
  have uU:iy p (j+1+1)=iy p (j+1)++List.replicate ((bL p (az p (j+1))).length - 1)(az p (j+1)):=rfl
  have hhi:xS g p (j+1+1)=k9 (xS g p (j+1))(sV g p (j+1))(az p (j+1))(sV g p (j+1)).length++List.replicate ((bL p (az p (j+1))).length - 1)0:=rfl
  have MF:=EP hrun hI hjn
  have kr:=gu (p:=p)(k:=j+1)
  have sS:=qo (g:=g)(p:=p)(k:=j+1)
  have NB:=(pR hrun (k:=j+1)(by omega)).1
  have MG:fB g p (j+1)=if bL p (az p (j+1))= [] then fB g p j else (fB g p j).take (dx (fB g p j)(eA g p (az p (j+1)))).toNat++bL p (az p (j+1))++(fB g p j).drop ((dx (fB g p j)(eA g p (az p (j+1)))).toNat+(cH g p (az p (j+1))).length):=rfl
  have MH:ld g p (j+1)=(ld g p j).take ((dx (fB g p j)(eA g p (az p (j+1)))).toNat+1)++ff (cK p (j+1))((bL p (az p (j+1))).length - 1)++(ld g p j).drop ((dx (fB g p j)(eA g p (az p (j+1)))).toNat+(cH g p (az p (j+1))).length):=rfl
  rw [p1,Int.toNat_natCast] at MG MH
  obtain⟨r1,r2,r3⟩:=vC hrun hI hjn
  have Qm:(fB g p j).length≤10000:=by
   rw [r1]
   have:=eV (m:=(List.range g.es.length).map Int.ofNat)(Dq hrun (k:=j+1)(by omega))fun e he=>by
    have hi:=dI hm hrun.2.1 (k:=j+1)(by omega)fun i hi=>hrun.2.2 i (by omega)
    obtain⟨t,ht,rfl⟩:=List.mem_map.1 he
    obtain⟨⟨h1,h2⟩,_⟩:=n0 hm hi.1.aY ht
    exact List.mem_map.2⟨t.1.toNat,List.mem_range.2 (by omega),by simp;omega⟩
   simp at this
   omega
  have hfr:eA g p (az p (j+1))=((fe g p (j+1)).getD 0 (0,0,0)).1:=by
   unfold eA
   rw [NA]
   cases fe g p (j+1)<;>rfl
  rw [NA,List.length_map] at p2 p3 p6 p7 MG MH
  have hIx:=aQ (fB g p j)(eA g p (az p (j+1)))(by omega)
  rw [p1] at hIx
  rw [hfr] at hIx p5
  have ku:=vB (az p (j+1))(bL p (az p (j+1)))(fB g p j)(ld g p j)(arr (LK g p (j+1))g.es.length)(arr (RK g p (-1)(j+1))g.es.length)(iy p (j+1))(xS g p (j+1))a (a+(fe g p (j+1)).length)(by omega)(by omega)(by omega)(by omega)(by omega)(by rw [p7];exact MF)(by omega)(fun i hi=>by rw [c9];exact ja i hi)(by rw [c9,c9])(by omega)(by omega)
  rw [p7,p5,p6,kr, ← hhi, ← uU, ← MG, ← MH] at ku
  rw [← hfr] at ku
  rw [hL,hR] at ku
  obtain⟨x,MI⟩:∃x:Nat,az p (j+1)=x:=⟨(az p (j+1)).toNat,by omega⟩
  have fZ:x<p.outs.length:=by have:=hrun.2.1.1;omega
  have hv:=j3 fZ
  have hla:p.outs.getD x []=bL p (az p (j+1)):=by unfold bL;rw [MI,Int.toNat_natCast]
  rw [hla] at hv
  have yJ:=fun d=>nM (ls:=ee g p g.n.toNat)(k:=x)(by omega)d
  have hex:(ee g p g.n.toNat).getD x []=fe g p (j+1):=by rw [← JP,MI,Int.toNat_natCast]
  rw [hex] at yJ
  have hvl:(vT (ee g p g.n.toNat)).length=g.n.toNat:=by rw [vT_length,hel]
  have Ff:x<g.n.toNat:=by omega
  obtain⟨bb,mc⟩:∃bb:Nat,bb=a+(fe g p (j+1)).length:=⟨_,rfl⟩
  have o7:(a:Int)+((fe g p (j+1)).length:Int)=(bb:Int):=by omega
  rw [← mc] at ku
  have iR:bb≤10000:=by omega
  generalize bL p (az p (j+1))=o at ku hv
  rw [MI] at ku hx
  generalize fe g p (j+1)=gn at hIx yJ o7 p2
  clear mc
  generalize FR:fB g p (j+1)=E2 at ku
  generalize fB g p j=E1 at ku hIx
  generalize hq1:ld g p (j+1)=G2 at ku
  generalize ld g p j=G1 at ku
  generalize Ep:arr (LK g p (j+1+1))g.es.length=A2 at ku
  generalize Pk:arr (RK g p (-1)(j+1+1))g.es.length=B2 at ku
  generalize arr (LK g p (j+1))g.es.length=A1 at ku
  generalize arr (RK g p (-1)(j+1))g.es.length=B1 at ku
  generalize Pm:iy p (j+1+1)=L2 at ku
  generalize Pn:xS g p (j+1+1)=H2 at ku
  generalize iy p (j+1)=L1 at ku
  generalize xS g p (j+1)=H1 at ku
  generalize vT (ee g p g.n.toNat)=VE at yJ hvl
  unfold GN GO at ku
  repeat' (first|fail|((first|((with_reducible (first|apply oA|apply oB));exact rfl;intro K hK)|(refine hK _ ?_;clear hK K)|((with_reducible (first|apply oG|apply oH));iterate 3 exact rfl)|((with_reducible apply oI);(iterate 2 exact rfl);intro K hK)|(with_reducible (first|apply wI|apply wJ|apply wK)));try simp only [go_sem,simprocAttr,hb,hx,hv,yJ,hvl,o7])|(show dF _ (.region 15 _ _)_ _;(refine iG hX 54 4 302 300 rfl rfl rfl (by first|exact .inl rfl|exact .inr rfl)(by decide)(by decide) ?_;simp only [LA.app,ASt.put,ASt.kill,subT,rmk,putM,rml,kl,AV.sub,AV.subs,AObj.sub,List.set_cons_zero,List.set_cons_succ,go_sem,simprocAttr,hb,hx,hv,yJ,hvl,o7]);(refine iG hX 54 5 303 301 rfl rfl rfl (by first|exact .inl rfl|exact .inr rfl)(by decide)(by decide) ?_;simp only [LA.app,ASt.put,ASt.kill,subT,rmk,putM,rml,kl,AV.sub,AV.subs,AObj.sub,List.set_cons_zero,List.set_cons_succ,go_sem,simprocAttr,hb,hx,hv,yJ,hvl,o7]))|(with_reducible (first|apply oC|apply oJ|exact oK|apply wA|apply wB|apply wC hX hC|apply wD hX hC|apply wE hX hC af|apply wF hX hC af|apply wG|apply wH|apply And.intro))|((with_reducible refine oD ?_ ?_);first|fail|kernel_rfl)|((with_reducible (first|apply oE|apply oF));(iterate 3 exact rfl);all_goals (intro h;first|(exact absurd h (by decide))|((try simp only [go_sem,simprocAttr,hb,hx,hv,yJ,hvl,o7] at h);(try with_reducible intro K hK);simp only [go_sem,simprocAttr,hb,hx,hv,yJ,hvl,o7])))|((first|((with_reducible apply wL);exact rfl)|((with_reducible apply wM);exact rfl));all_goals (try ((with_reducible intro h);first|(exact absurd h (by decide))|(try simp only [go_sem,simprocAttr,hb,hx,hv,yJ,hvl,o7] at h))))|omega|((first|first|refine aa hX hC hP (hIx)rfl rfl rfl (by simp only [go_sem,simprocAttr,hb,hx,hv,yJ,hvl,o7])rfl ?_|(refine aA hX hC hP [(10000,54),(10001,59),(10002,63),(10003,300),(10004,301),(10005,302),(10006,303)](ku)rfl rfl rfl ?_ ?_ ?_ ?_ ?_ ?_ ?_ ?_ ?_ ?_ ?_ ?_ ?_ ?_;(focus (simp only [go_sem,simprocAttr,hb,hx,hv,yJ,hvl,o7];done));(iterate 12 (focus (simp [go_sem,simprocAttr,hb,hx,hv,yJ,hvl,o7];done)));simp only [go_sem,simprocAttr,hb,hx,hv,yJ,hvl,o7,List.map_cons,List.map_nil]));try simp only [go_sem,simprocAttr,hb,hx,hv,yJ,hvl,o7])|(intro h))
  refine⟨j+1,by omega, ?_,by omega⟩
  rw [FR,hq1,Ep,Pk,Pm,Pn]
  refine Le.of ?_ ?_<;>simp [go_sem,simprocAttr,hb,hx,hv,yJ,hvl,o7]
 have hb:decide ((j:Int)<(N1:Int))=false:=decide_eq_false (by omega)
 obtain rfl:j=N1:=by omega
 have Po:j+1=g.n.toNat:=by omega
 rw [Po]
 have kr:=gu (p:=p)(k:=g.n.toNat)
 have sS:=qo (g:=g)(p:=p)(k:=g.n.toNat)
 have NB:=(pR hrun (k:=g.n.toNat)(by omega)).1
 have Pp:ER g p=⟨arr (LK g p g.n.toNat)g.es.length,(arr (RK g p (-1)g.n.toNat)g.es.length).map (lR g p),iy p g.n.toNat++ [(s0:Int)],xS g p g.n.toNat++ [az p j]⟩:=by unfold ER;rw [hs0,KI]
 have s6:(arr (RK g p (-1)g.n.toNat)g.es.length).length=g.es.length:=c9
 rw [Pp]
 have hrf:∀f,lR g p f=if f= -1 then (cK p g.n.toNat:Int)else f:=fun f=>rfl
 generalize arr (RK g p (-1)g.n.toNat)g.es.length=RA at s6
 generalize arr (LK g p g.n.toNat)g.es.length=LA
 generalize iy p g.n.toNat=LO at kr
 generalize xS g p g.n.toNat=HI at sS
 generalize fB g p j=E1
 generalize ld g p j=G1
 generalize cK p g.n.toNat=cc at kr sS NB hrf
 repeat' (first|fail|((first|((with_reducible (first|apply oA|apply oB));exact rfl;intro K hK)|(refine hK _ ?_;clear hK K)|((with_reducible (first|apply oG|apply oH));iterate 3 exact rfl)|((with_reducible apply oI);(iterate 2 exact rfl);intro K hK)|(with_reducible (first|apply wI|apply wJ|apply wK)));try simp only [go_sem,simprocAttr,hb,kr])|fail|(with_reducible (first|apply oC|apply oJ|exact oK|apply wA|apply wB|apply wC hX hC|apply wD hX hC|apply wE hX hC af|apply wF hX hC af|apply wG|apply wH|apply And.intro))|((with_reducible refine oD ?_ ?_);first|fail|kernel_rfl)|((with_reducible (first|apply oE|apply oF));(iterate 3 exact rfl);all_goals (intro h;first|(exact absurd h (by decide))|((try simp only [go_sem,simprocAttr,hb,kr] at h);(try with_reducible intro K hK);simp only [go_sem,simprocAttr,hb,kr])))|((first|((with_reducible apply wL);exact rfl)|((with_reducible apply wM);exact rfl));all_goals (try ((with_reducible intro h);first|(exact absurd h (by decide))|(try simp only [go_sem,simprocAttr,hb,kr] at h))))|omega|((first|fail);try simp only [go_sem,simprocAttr,hb,kr])|(intro h))
 refine an (fun i:Nat=>i≤RA.length)(fun i=>⟨[(4, .ptr 4 0),(12, .ptr 54 0),(17,eN cc),(175, .ref 63),(176,eN RA.length),(177,eN i)], [(54, .box [.d (sI E1), .d (sI G1), .ref 59, .ref 63, .ref 156, .ref 164]),(59, .own 3 1 (LA.map rI)),(63, .own 3 1 ((lf RA (lR g p)i).map rI)),(156, .tip 3 1 ((LO++ [(s0:Int)]).map rI)),(164, .own 3 1 ((HI++ [az p j]).map rI)),(4, .box [.nil 3, .nil 3, .nil 3, .nil 3])]⟩)(fun i=>RA.length - i)0 (by omega) ?_ ?_
 ·refine Le.of ?_ ?_<;>simp [go_sem,simprocAttr,lf,rI]
 rintro i hi
 rcases Nat.lt_or_ge i RA.length with hil|Kb
 ·have mT:decide ((i:Int)<(RA.length:Int))=true:=decide_eq_true (by omega)
  have hml:=Dt (l:=RA)(f:=lR g p)(j:=i)
  have hma:=zS (f:=lR g p)hil
  by_cases Ar:RA.getD i 0= -1
  ·have ak:decide ((lf RA (lR g p)i).getD i 0= -1)=true:=decide_eq_true (by rw [hma,Ar])
   have dr:=uo (f:=lR g p)hil
   rw [hrf,if_pos Ar] at dr
   generalize lf RA (lR g p)i=M at hml ak dr
   repeat' (first|fail|((first|((with_reducible (first|apply oA|apply oB));exact rfl;intro K hK)|(refine hK _ ?_;clear hK K)|((with_reducible (first|apply oG|apply oH));iterate 3 exact rfl)|((with_reducible apply oI);(iterate 2 exact rfl);intro K hK)|(with_reducible (first|apply wI|apply wJ|apply wK)));try simp only [go_sem,simprocAttr,mT,ak,hml])|fail|(with_reducible (first|apply oC|apply oJ|exact oK|apply wA|apply wB|apply wC hX hC|apply wD hX hC|apply wE hX hC af|apply wF hX hC af|apply wG|apply wH|apply And.intro))|((with_reducible refine oD ?_ ?_);first|fail|kernel_rfl)|((with_reducible (first|apply oE|apply oF));(iterate 3 exact rfl);all_goals (intro h;first|(exact absurd h (by decide))|((try simp only [go_sem,simprocAttr,mT,ak,hml] at h);(try with_reducible intro K hK);simp only [go_sem,simprocAttr,mT,ak,hml])))|((first|((with_reducible apply wL);exact rfl)|((with_reducible apply wM);exact rfl));all_goals (try ((with_reducible intro h);first|(exact absurd h (by decide))|(try simp only [go_sem,simprocAttr,mT,ak,hml] at h))))|omega|((first|fail);try simp only [go_sem,simprocAttr,mT,ak,hml])|(intro h))
   refine⟨i+1,by omega, ?_,by omega⟩
   rw [dr]
   refine Le.of ?_ ?_<;>simp [go_sem,simprocAttr,mT,ak,hml,rI]
  ·have ak:decide ((lf RA (lR g p)i).getD i 0= -1)=false:=decide_eq_false (by rw [hma];exact Ar)
   have dr:=Ba (f:=lR g p)hil (by rw [hrf,if_neg Ar])
   generalize lf RA (lR g p)i=M at hml ak dr
   repeat' (first|fail|((first|((with_reducible (first|apply oA|apply oB));exact rfl;intro K hK)|(refine hK _ ?_;clear hK K)|((with_reducible (first|apply oG|apply oH));iterate 3 exact rfl)|((with_reducible apply oI);(iterate 2 exact rfl);intro K hK)|(with_reducible (first|apply wI|apply wJ|apply wK)));try simp only [go_sem,simprocAttr,mT,ak,hml])|fail|(with_reducible (first|apply oC|apply oJ|exact oK|apply wA|apply wB|apply wC hX hC|apply wD hX hC|apply wE hX hC af|apply wF hX hC af|apply wG|apply wH|apply And.intro))|((with_reducible refine oD ?_ ?_);first|fail|kernel_rfl)|((with_reducible (first|apply oE|apply oF));(iterate 3 exact rfl);all_goals (intro h;first|(exact absurd h (by decide))|((try simp only [go_sem,simprocAttr,mT,ak,hml] at h);(try with_reducible intro K hK);simp only [go_sem,simprocAttr,mT,ak,hml])))|((first|((with_reducible apply wL);exact rfl)|((with_reducible apply wM);exact rfl));all_goals (try ((with_reducible intro h);first|(exact absurd h (by decide))|(try simp only [go_sem,simprocAttr,mT,ak,hml] at h))))|omega|((first|fail);try simp only [go_sem,simprocAttr,mT,ak,hml])|(intro h))
   refine⟨i+1,by omega, ?_,by omega⟩
   rw [dr]
   refine Le.of ?_ ?_<;>simp [go_sem,simprocAttr,mT,ak,hml,rI]
 have mT:decide ((i:Int)<(RA.length:Int))=false:=decide_eq_false (by omega)
 obtain rfl:i=RA.length:=by omega
 rw [Du]
 repeat' (first|fail|((first|((with_reducible (first|apply oA|apply oB));exact rfl;intro K hK)|(refine hK _ ?_;clear hK K)|((with_reducible (first|apply oG|apply oH));iterate 3 exact rfl)|((with_reducible apply oI);(iterate 2 exact rfl);intro K hK)|(with_reducible (first|apply wI|apply wJ|apply wK)));try simp only [go_sem,simprocAttr,mT,fM])|fail|(with_reducible (first|apply oC|apply oJ|exact oK|apply wA|apply wB|apply wC hX hC|apply wD hX hC|apply wE hX hC af|apply wF hX hC af|apply wG|apply wH|apply And.intro))|((with_reducible refine oD ?_ ?_);first|fail|kernel_rfl)|((with_reducible (first|apply oE|apply oF));(iterate 3 exact rfl);all_goals (intro h;first|(exact absurd h (by decide))|((try simp only [go_sem,simprocAttr,mT,fM] at h);(try with_reducible intro K hK);simp only [go_sem,simprocAttr,mT,fM])))|((first|((with_reducible apply wL);exact rfl)|((with_reducible apply wM);exact rfl));all_goals (try ((with_reducible intro h);first|(exact absurd h (by decide))|(try simp only [go_sem,simprocAttr,mT,fM] at h))))|omega|((first|fail);try simp only [go_sem,simprocAttr,mT,fM])|(intro h))
end Go.Ab
end
section
namespace Go.Ab
open Go.Proofs
set_option maxRecDepth 10000
set_option linter.unusedSectionVars false
section
variable (g:Gr)(p:Pl)
def cN:Nat:=cK p g.n.toNat
def Lf (e:Int):Int:=LK g p g.n.toNat e
def Rf (e:Int):Int:=RK g p (cN g p)g.n.toNat e
def ES:List Int:=iy p g.n.toNat++ [az p 0]
def GP:List Int:=xS g p g.n.toNat++ [az p (g.n.toNat - 1)]
def Pq (f:Int):Int:=(ES g p).getD f.toNat 0
def Qn (f:Int):Int:=(GP g p).getD f.toNat 0
end
section
variable {g:Gr} {p:Pl}
theorem zT:(ES g p).length=cN g p+1:=by simp [ES,gu,cN]
variable (h:cC g p)(hI:kB g=true)
include h hI
theorem JQ {a:Int} (ha:(cy g p).J0 a):∃k u b v,k<g.n.toNat∧ql g a=az p k∧bL p (az p k)=u++a::b::v:=by
 obtain⟨x,u,b,v,e⟩:=ha
 by_cases hx:pQ g x
 ·obtain⟨k,hk,rfl⟩:=gh h.2.1 hx.1 hx.2
  rw [iM hx] at e
  exact⟨k,u,b,v,hk,(mQ h hk e).1,e⟩
 ·rw [nZ hx] at e;cases u<;>cases e
theorem zU {a:Int} (ha:(cy g p).J0 a):∃f:Nat,1≤f∧f<cN g p∧∀r,RK g p r g.n.toNat a=f:=by
 obtain⟨k,u,b,v,hk,_,e⟩:=JQ h hI ha
 have hl:(bL p (az p k)).length=u.length+(v.length+2):=by rw [e];simp
 have DM:cK p (k+1)=cK p k+((bL p (az p k)).length - 1):=rfl
 obtain⟨d,hd⟩:=Nat.exists_eq_add_of_le (show k+1≤g.n.toNat by omega)
 have hmo:=qm (p:=p)(k:=k+1)(d:=d)
 rw [← hd] at hmo
 have hp:0<cK p k:=o3
 have Hh:cN g p=cK p g.n.toNat:=rfl
 exact⟨cK p k+u.length,by omega,by omega,fun r=>by rw [iN h hk e (by omega)(Nat.le_refl _)];omega⟩
theorem lg:(cy g p).gC (Lf g p)(Rf g p)0 (cN g p)(Pq g p):=by
 have F:=mR h hI (r:=cN g p)(.inr (Int.le_refl _))
 exact {F with
  new:=fun {x u a b v} e=>by
   obtain⟨h1,h2,h3⟩:=F.new e
   obtain⟨f,_,h5,h6⟩:=zU h hI (a:=a)⟨x,u,b,v,e⟩
   have h7:Rf g p a=f:=h6 _
   have h8:RK g p (cN g p)g.n.toNat a=f:=h6 _
   refine⟨?_,h2,h3⟩
   rw [h8] at h1
   show (iy p g.n.toNat++ [az p 0]).getD (Rf g p a).toNat 0=x
   rw [h7, ← h1,Int.toNat_natCast,kW (by rw [gu];exact h5)]}
theorem JR {e:Int} (he:0≤e∧e<g.es.length):lR g p (RK g p (-1)g.n.toNat e)=Rf g p e:=by
 have F:=mR h hI (r:= -1)(.inl (by omega))
 have F':=mR h hI (r:=cN g p)(.inr (Int.le_refl _))
 rcases BB (zI h hI)F F' (d:=_+1)(Nat.lt_succ_self _)(e:=e)he with⟨h1,h2⟩|⟨a,h1,_,h2,h3⟩
 ·rw [h1];unfold lR Rf;rw [if_pos rfl,h2];rfl
 ·obtain⟨f,h4,_,h5⟩:=zU h hI h1
  unfold lR Rf
  rw [h2,h3,h5,h5,if_neg (by omega)]
theorem Gm:ER g p=⟨arr (Lf g p)g.es.length,arr (Rf g p)g.es.length,ES g p,GP g p⟩:=by
 unfold ER
 have:(arr (RK g p (-1)g.n.toNat)g.es.length).map (lR g p)=arr (Rf g p)g.es.length:=by
  unfold arr
  rw [List.map_map]
  refine List.map_congr_left fun i hi=> ?_
  have:=List.mem_range.1 hi
  exact JR h hI (e:=(i:Int))(by omega)
 rw [this];rfl
theorem zV {e:Int} (he:0≤e∧e<g.es.length):1≤Rf g p e∧Rf g p e≤cN g p:=by
 have hp:0<cK p g.n.toNat:=o3
 rcases BB (zI h hI)(lg h hI)(lg h hI)(d:=_+1)(Nat.lt_succ_self _)(e:=e)he with⟨h1,_⟩|⟨a,h1,_,h2,_⟩
 ·rw [h1];have:cN g p=cK p g.n.toNat:=rfl;omega
 ·obtain⟨f,h3,h4,h5⟩:=zU h hI h1
  have h5:Rf g p a=f:=h5 _
  omega
theorem zW {e:Int} (he:0≤e∧e<g.es.length):0≤Lf g p e∧Lf g p e<cN g p:=by
 have hp:0<cK p g.n.toNat:=o3
 rcases EZ (zI h hI)(lg h hI)(lg h hI)(d:=_+1)(Nat.lt_succ_self _)(e:=e)he with⟨h1,_⟩|⟨a,h1,h2,_⟩
 ·rw [h1];have:cN g p=cK p g.n.toNat:=rfl;omega
 ·obtain⟨f,h3,h4,h5⟩:=zU h hI h1
  have h5:Rf g p a=f:=h5 _
  omega
theorem JS:(cN g p:Int)=g.es.length - g.n+2:=by
 have hm:=aF h.1
 have hn:=aV hm
 have ua:bL p (az p (g.n.toNat - 1))= []:=(ez h hI (aN h.2.1 (by omega))).2 rfl
 have key:∀k,k<g.n.toNat→(cK p k:Int)=1+((List.range k).flatMap fun j=>bL p (az p j)).length - k:=by
  intro k
  induction k with
  |zero=>intro _;simp [cK]
  |succ k ih=>
   intro hk
   have hO:bL p (az p k)≠ []:=fun h1=>by
    have:=(ez h hI (aN h.2.1 (show k<g.n.toNat by omega))).1 h1
    have:=dL h.2.1 (show k<g.n.toNat by omega)(by omega)this
    omega
   have:=List.length_pos_iff.2 hO
   have ih:=ih (by omega)
   have e1:((List.range (k+1)).flatMap fun j=>bL p (az p j))=((List.range k).flatMap fun j=>bL p (az p j))++bL p (az p k):=by rw [List.range_succ,List.flatMap_append];simp
   rw [e1,List.length_append,cK]
   omega
 have hall:((List.range (g.n.toNat - 1)).flatMap fun j=>bL p (az p j)).length=g.es.length:=by
  have bY:∀k,k≤g.n.toNat→((List.range k).flatMap fun j=>bL p (az p j)).Nodup:=by
   intro k
   induction k with
   |zero=>intro _;simp
   |succ k ih=>
    intro hk
    rw [List.range_succ,List.flatMap_append,List.nodup_append]
    refine⟨ih (by omega),by simpa using Dl h (by omega),fun a ha b hb e=> ?_⟩
    subst e
    obtain⟨j,hj,hja⟩:=List.mem_flatMap.1 ha
    have hj:=List.mem_range.1 hj
    have hb:a∈bL p (az p k):=by simpa using hb
    have t1:=(iO h (by omega)hja).2
    have t2:=(iO h (by omega)hb).2
    have:=dL h.2.1 (show j<g.n.toNat by omega)(by omega)(t1.symm.trans t2)
    omega
  have JT:∀e:Int,0≤e→e<g.es.length→e∈((List.range (g.n.toNat - 1)).flatMap fun j=>bL p (az p j)):=fun e h1 h2=>by
   have ht:=bK hm (i:=e.toNat)(by omega)
   obtain⟨k,hk,e1⟩:=gh h.2.1 ht.1 ht.2
   have e1:az p k=ql g e:=e1
   obtain⟨u,v,e2⟩:=zQ h hk⟨h1,h2⟩e1.symm
   refine List.mem_flatMap.2⟨k,List.mem_range.2 ?_,by rw [e2];simp⟩
   refine Decidable.byContradiction fun hc=> ?_
   obtain rfl:k=g.n.toNat - 1:=by omega
   rw [ua] at e2;cases u<;>cases e2
  have h1:=oo JT
  have h2:=eV (m:=(List.range g.es.length).map Int.ofNat)(bY (g.n.toNat - 1)(by omega))fun e he=>by
   obtain⟨j,hj,hja⟩:=List.mem_flatMap.1 he
   have hj:=List.mem_range.1 hj
   have:=(iO h (by omega)hja).1
   exact List.mem_map.2⟨e.toNat,List.mem_range.2 (by omega),by simp;omega⟩
  rw [List.length_map,List.length_range] at h2
  omega
 have h1:=key (g.n.toNat - 1)(by omega)
 rw [hall] at h1
 have h2:cN g p=cK p (g.n.toNat - 1):=by
  show cK p g.n.toNat=_
  rw [show g.n.toNat=(g.n.toNat - 1)+1 by omega,cK,show g.n.toNat - 1+1 - 1=g.n.toNat - 1 by omega,ua];rfl
 omega
theorem Gn (h0:0<g.es.length):2≤g.n:=by
 have hm:=aF h.1
 have ht:=bK hm (i:=0)h0
 have hh:=bX hm (i:=0)h0
 obtain⟨k,hk,e⟩:=gh h.2.1 hh.1 hh.2
 obtain⟨j,hj,_⟩:=sN h (e:=0)(by omega)hk e.symm
 omega
end
end Go.Ab
end
section
namespace Go.Ab
open Go.Proofs
set_option maxRecDepth 10000
def Be (q:Nat→Bool):Nat→Nat
 |0=>0
 |n+1=>Be q n ||| (if q n then 2 ^ n else 0)
theorem j8 {q:Nat→Bool} {y:Nat} :∀ {n:Nat},(Be q n).testBit y=(decide (y<n)&&q y)
 |0=>by simp [Be]
 |n+1=>by
  rw [Be,Nat.testBit_or,j8]
  by_cases h:y=n
  ·subst h
   cases hq:q y<;>simp [Nat.testBit_two_pow_self]
  ·have h2:(if q n then 2 ^ n else 0).testBit y=false:=by
    split
    ·rw [Nat.testBit_two_pow];exact decide_eq_false fun e=>h e.symm
    ·simp
   rw [h2,Bool.or_false]
   congr 1
   rw [decide_eq_decide];omega
theorem ET {q:Nat→Bool} {n:Nat} :Be q n<2 ^ n:=by
 refine Nat.lt_pow_two_of_testBit _ fun i hi=> ?_
 rw [j8,decide_eq_false (by omega)];rfl
inductive vD (g:Gr)(both:Bool)(c:Nat→Bool)(x:Nat):Nat→Prop
 |refl:vD g both c x x
 |fwd {i:Nat} :i<g.es.length→c i=true→vD g both c x (tl g i).toNat→vD g both c x (hd g i).toNat
 |JU {i:Nat} :i<g.es.length→c i=true→both=true→vD g both c x (hd g i).toNat→vD g both c x (tl g i).toNat
theorem vD.trans {g:Gr} {both:Bool} {c:Nat→Bool} {x y z:Nat} (h1:vD g both c x y)(h2:vD g both c y z):vD g both c x z:=by
 induction h2 with
 |refl=>exact h1
 |fwd a b _ ih=>exact .fwd a b ih
 |JU a b d _ ih=>exact .JU a b d ih
open Classical in
noncomputable def JV (g:Gr)(both:Bool)(c:Nat→Bool)(x:Nat):Nat:=Be (fun y=>decide (vD g both c x y))g.n.toNat
noncomputable def DS (g:Gr)(both:Bool)(c:Nat→Bool):List Nat:=(List.range g.n.toNat).map (JV g both c)
theorem qq {g:Gr} {both:Bool} {c:Nat→Bool} :(DS g both c).length=g.n.toNat:=by simp [DS]
theorem yK {g:Gr} {both:Bool} {c:Nat→Bool} {x:Nat} (h:x<g.n.toNat):(DS g both c).getD x 0=JV g both c x:=by
 simp [DS,List.getD_eq_getElem?_getD,List.getElem?_range h]
open Classical in
theorem zX {g:Gr} {both:Bool} {c:Nat→Bool} {x y:Nat} :(JV g both c x).testBit y=true↔y<g.n.toNat∧vD g both c x y:=by
 unfold JV
 rw [j8]
 simp
def bM (g:Gr)(both:Bool)(c:Nat→Bool)(a:List Nat):Nat→List Nat × Bool
 |0=>(a,false)
 |k+1=>
  let s:=bM g both c a k
  if c k=true then
   let t:=s.1.getD (tl g k).toNat 0 ||| s.1.getD (hd g k).toNat 0
   let h:=if both=true then t else s.1.getD (hd g k).toNat 0
   ((s.1.set (tl g k).toNat t).set (hd g k).toNat h,s.2||(decide (t≠s.1.getD (tl g k).toNat 0)||decide (h≠s.1.getD (hd g k).toNat 0)))
  else s
theorem o8 {g:Gr} {both:Bool} {c:Nat→Bool} {a:List Nat} :∀ {k:Nat},(bM g both c a k).1.length=a.length
 |0=>rfl
 |k+1=>by
  simp only [bM]
  split
  ·simp [o8]
  ·exact o8
theorem lP {l:List Nat} {i j:Nat} {a:Nat} (hi:i<l.length):(l.set i a).getD j 0=if j=i then a else l.getD j 0:=by
 rw [List.getD_eq_getElem?_getD,List.getElem?_set]
 by_cases h:i=j
 ·subst h;rw [if_pos rfl,if_pos hi,if_pos rfl];rfl
 ·rw [if_neg h,if_neg (Ne.symm h), ← List.getD_eq_getElem?_getD]
structure Bv (g:Gr)(both:Bool)(c:Nat→Bool)(a:List Nat):Prop where
 len:a.length=g.n.toNat
 own:∀x,x<g.n.toNat→(a.getD x 0).testBit x=true
 snd:∀x y,x<g.n.toNat→(a.getD x 0).testBit y=true→y<g.n.toNat∧vD g both c x y
theorem Bv.lt {g:Gr} {both:Bool} {c:Nat→Bool} {a:List Nat} (h:Bv g both c a)(hn:g.n.toNat≤64)(x:Nat):a.getD x 0<18446744073709551616:=by
 by_cases hx:x<g.n.toNat
 ·have:a.getD x 0<2 ^ 64:=Nat.lt_pow_two_of_testBit _ fun i hi=>by
   cases hb:(a.getD x 0).testBit i with
   |false=>rfl
   |true=>have:=(h.snd x i hx hb).1;omega
  simpa using this
 ·rw [List.getD_eq_getElem?_getD,List.getElem?_eq_none (by rw [h.len];omega)];simp
theorem grow_step {g:Gr} (hm:aM g=true) {both:Bool} {c:Nat→Bool} {a:List Nat} (h:Bv g both c a) {i:Nat} (hi:i<g.es.length)(hc:c i=true):
  Bv g both c ((a.set (tl g i).toNat (a.getD (tl g i).toNat 0 ||| a.getD (hd g i).toNat 0)).set (hd g i).toNat (if both=true then a.getD (tl g i).toNat 0 ||| a.getD (hd g i).toNat 0 else a.getD (hd g i).toNat 0))∧
  ∀x y,(a.getD x 0).testBit y=true→(((a.set (tl g i).toNat (a.getD (tl g i).toNat 0 ||| a.getD (hd g i).toNat 0)).set (hd g i).toNat (if both=true then a.getD (tl g i).toNat 0 ||| a.getD (hd g i).toNat 0 else a.getD (hd g i).toNat 0)).getD x 0).testBit y=true:=by
 obtain⟨ht,hh⟩:=dK hm hi
 have ht:0≤tl g i∧tl g i<g.n:=ht
 have hh:0≤hd g i∧hd g i<g.n:=hh
 have hl:=h.len
 have qH:∀x,((a.set (tl g i).toNat (a.getD (tl g i).toNat 0 ||| a.getD (hd g i).toNat 0)).set (hd g i).toNat (if both=true then a.getD (tl g i).toNat 0 ||| a.getD (hd g i).toNat 0 else a.getD (hd g i).toNat 0)).getD x 0=
   if x=(hd g i).toNat then (if both=true then a.getD (tl g i).toNat 0 ||| a.getD (hd g i).toNat 0 else a.getD (hd g i).toNat 0)else if x=(tl g i).toNat then a.getD (tl g i).toNat 0 ||| a.getD (hd g i).toNat 0 else a.getD x 0:=fun x=>by
  rw [lP (by rw [List.length_set];omega),lP (by omega)]
 have mono:∀x y,(a.getD x 0).testBit y=true→(((a.set (tl g i).toNat (a.getD (tl g i).toNat 0 ||| a.getD (hd g i).toNat 0)).set (hd g i).toNat (if both=true then a.getD (tl g i).toNat 0 ||| a.getD (hd g i).toNat 0 else a.getD (hd g i).toNat 0)).getD x 0).testBit y=true:=fun x y hb=>by
  rw [qH]
  split
  ·rename_i e;subst e
   split
   ·rw [Nat.testBit_or,hb,Bool.or_true]
   ·exact hb
  ·split
   ·rename_i e;subst e
    rw [Nat.testBit_or,hb,Bool.true_or]
   ·exact hb
 refine⟨⟨by simp [hl],fun x hx=>mono x x (h.own x hx),fun x y hx hb=> ?_⟩,mono⟩
 have e1:vD g both c (tl g i).toNat (hd g i).toNat:= .fwd hi hc .refl
 rw [qH] at hb
 split at hb
 ·rename_i e;subst e
  split at hb
  ·rename_i Pr
   rw [Nat.testBit_or,Bool.or_eq_true] at hb
   rcases hb with hb|hb
   ·obtain⟨g1,g2⟩:=h.snd _ _ (by omega)hb
    exact⟨g1,(vD.JU hi hc Pr .refl).trans g2⟩
   ·exact h.snd _ _ hx hb
  ·exact h.snd _ _ hx hb
 ·split at hb
  ·rename_i e;subst e
   rw [Nat.testBit_or,Bool.or_eq_true] at hb
   rcases hb with hb|hb
   ·exact h.snd _ _ hx hb
   ·obtain⟨g1,g2⟩:=h.snd _ _ (by omega)hb
    exact⟨g1,e1.trans g2⟩
  ·exact h.snd _ _ hx hb
theorem gX {g:Gr} (hm:aM g=true) {both:Bool} {c:Nat→Bool} {a:List Nat} (h:Bv g both c a):∀ {k:Nat},k≤g.es.length→Bv g both c (bM g both c a k).1∧∀x y,(a.getD x 0).testBit y=true→((bM g both c a k).1.getD x 0).testBit y=true
 |0,_=>⟨h,fun x y hb=>hb⟩
 |k+1,hk=>by
  obtain⟨i1,i2⟩:=gX hm h (k:=k)(by omega)
  simp only [bM]
  by_cases hc:c k=true
  ·rw [if_pos hc]
   obtain⟨j1,j2⟩:=grow_step hm i1 (i:=k)(by omega)hc
   exact⟨j1,fun x y hb=>j2 x y (i2 x y hb)⟩
  ·rw [if_neg hc];exact⟨i1,i2⟩
def sX (a:List Nat):Nat:=a.foldr (· + ·)0
theorem zY:∀ {a b:List Nat},a.length=b.length→(∀x,a.getD x 0≤b.getD x 0)→a≠b→sX a<sX b
 | [], [],_,_,hne=>absurd rfl hne
 |x::a,y::b,hl,h,hne=>by
  have h0:=h 0
  have hr:∀i,a.getD i 0≤b.getD i 0:=fun i=>by simpa using h (i+1)
  simp only [List.getD_cons_zero] at h0
  show x+sX a<y+sX b
  by_cases hab:a=b
  ·subst hab
   have:x≠y:=fun e=>hne (by rw [e])
   omega
  ·have:=zY (a:=a)(b:=b)(by simpa using hl)hr hab
   omega
theorem xJ {m:Nat} :∀ {a:List Nat},(∀x,a.getD x 0<m)→sX a≤a.length*m
 | [],_=>by simp [sX]
 |x::a,h=>by
  have h0:=h 0
  have:=xJ (a:=a)fun i=>by simpa using h (i+1)
  simp only [List.getD_cons_zero] at h0
  show x+sX a≤(a.length+1)*m
  rw [Nat.add_mul];omega
theorem mS {a b:Nat} (h:∀y,a.testBit y=true→b.testBit y=true):a≤b:=by
 have:a ||| b=b:=Nat.eq_of_testBit_eq fun y=>by
  rw [Nat.testBit_or]
  cases ha:a.testBit y with
  |false=>simp
  |true=>rw [h y ha];rfl
 rw [← this];exact Nat.left_le_or
theorem iz {g:Gr} {both:Bool} {c:Nat→Bool} {a:List Nat} :∀ {k:Nat},(bM g both c a k).2=false→(bM g both c a k).1=a∧∀i,i<k→c i=true→(a.getD (tl g i).toNat 0 ||| a.getD (hd g i).toNat 0=a.getD (tl g i).toNat 0)∧(both=true→a.getD (tl g i).toNat 0=a.getD (hd g i).toNat 0)
 |0,_=>⟨rfl,fun i hi=>by omega⟩
 |k+1,h=>by
  simp only [bM] at h ⊢
  by_cases hc:c k=true
  ·rw [if_pos hc] at h ⊢
   simp only [Bool.or_eq_false_iff,decide_eq_false_iff_not,Decidable.not_not] at h
   obtain⟨h1,h2,h3⟩:=h
   obtain⟨i1,i2⟩:=iz h1
   rw [i1] at h2 h3
   simp only [i1]
   have b8:∀ {l:List Nat} {i v:Nat},v=l.getD i 0→l.set i v=l:=fun {l i v} e=>by
    refine List.ext_getElem? fun j=> ?_
    rw [List.getElem?_set]
    split
    ·rename_i hj;subst hj
     split
     ·rename_i hl;rw [e,List.getD_eq_getElem?_getD,List.getElem?_eq_getElem hl];rfl
     ·rename_i hl;rw [List.getElem?_eq_none (by omega)]
    ·rfl
   refine⟨by rw [b8 h2,b8 h3],fun i hi Kh=> ?_⟩
   by_cases hik:i=k
   ·subst hik
    refine⟨h2,fun hb=> ?_⟩
    rw [if_pos hb] at h3
    rw [← h2,h3]
   ·exact i2 i (by omega)Kh
  ·rw [if_neg hc] at h ⊢
   obtain⟨i1,i2⟩:=iz h
   refine⟨i1,fun i hi Kh=> ?_⟩
   by_cases hik:i=k
   ·subst hik;exact absurd Kh hc
   ·exact i2 i (by omega)Kh
theorem yL {g:Gr} (hm:aM g=true) {both:Bool} {c:Nat→Bool} {a:List Nat} (h:Bv g both c a)(hne:(bM g both c a g.es.length).2=true):sX a<sX (bM g both c a g.es.length).1:=by
 obtain⟨_,i2⟩:=gX hm h (Nat.le_refl g.es.length)
 refine zY o8.symm (fun x=>mS (i2 x))fun e=> ?_
 have key:∀k,k≤g.es.length→(bM g both c a k).2=false:=by
  intro k
  induction k with
  |zero=>intro _;rfl
  |succ k ih=>
   intro hk
   have ih:=ih (by omega)
   have NC:=(iz ih).1
   simp only [bM]
   by_cases hc:c k=true
   ·rw [if_pos hc]
    simp only [Bool.or_eq_false_iff,decide_eq_false_iff_not,Decidable.not_not,ih,NC,true_and]
    obtain⟨j1,j2⟩:=gX hm h (k:=k)(by omega)
    have later:∀d,k+1+d≤g.es.length→∀x y,((bM g both c a (k+1)).1.getD x 0).testBit y=true→((bM g both c a (k+1+d)).1.getD x 0).testBit y=true:=by
     intro d
     induction d with
     |zero=>intro _ x y hb;exact hb
     |succ d Pt=>
      intro hd x y hb
      have hb:=Pt (by omega)x y hb
      show ((bM g both c a (k+1+d+1)).1.getD x 0).testBit y=true
      simp only [bM] at hb ⊢
      split
      ·rename_i DM
       exact (grow_step hm (gX hm h (k:=k+1+d)(by omega)).1 (i:=k+1+d)(by omega)DM).2 x y hb
      ·exact hb
    have pU:=later (g.es.length - (k+1))(by omega)
    rw [show k+1+(g.es.length - (k+1))=g.es.length by omega, ← e] at pU
    have xO:(bM g both c a (k+1)).1=(a.set (tl g k).toNat (a.getD (tl g k).toNat 0 ||| a.getD (hd g k).toNat 0)).set (hd g k).toNat (if both=true then a.getD (tl g k).toNat 0 ||| a.getD (hd g k).toNat 0 else a.getD (hd g k).toNat 0):=by
     simp only [bM];rw [if_pos hc,NC]
    obtain⟨ht,hh⟩:=dK hm (k:=k)(by omega)
    have ht:0≤tl g k∧tl g k<g.n:=ht
    have hh:0≤hd g k∧hd g k<g.n:=hh
    have hl:=h.len
    have qH:∀x,(bM g both c a (k+1)).1.getD x 0=if x=(hd g k).toNat then (if both=true then a.getD (tl g k).toNat 0 ||| a.getD (hd g k).toNat 0 else a.getD (hd g k).toNat 0)else if x=(tl g k).toNat then a.getD (tl g k).toNat 0 ||| a.getD (hd g k).toNat 0 else a.getD x 0:=fun x=>by
     rw [xO,lP (by rw [List.length_set];omega),lP (by omega)]
    have g1:(if both=true then a.getD (tl g k).toNat 0 ||| a.getD (hd g k).toNat 0 else a.getD (hd g k).toNat 0)=a.getD (hd g k).toNat 0:=by
     have:=mS (pU (hd g k).toNat)
     rw [qH,if_pos rfl] at this
     split at this
     ·rename_i hb
      rw [if_pos hb]
      exact Nat.le_antisymm this Nat.right_le_or
     ·rename_i hb;rw [if_neg hb]
    refine⟨?_,g1⟩
    by_cases heq:(tl g k).toNat=(hd g k).toNat
    ·rw [heq,Nat.or_self]
    ·have:=mS (pU (tl g k).toNat)
     rw [qH,if_neg heq,if_pos rfl] at this
     exact Nat.le_antisymm this Nat.left_le_or
   ·rw [if_neg hc];exact ih
 rw [key _ (Nat.le_refl _)] at hne
 cases hne
theorem Bf {g:Gr} (hm:aM g=true) {both:Bool} {c:Nat→Bool} {a:List Nat} (h:Bv g both c a)(hne:(bM g both c a g.es.length).2=false):a=DS g both c:=by
 obtain⟨_,dM⟩:=iz hne
 have comp:∀x y,x<g.n.toNat→vD g both c x y→∀w,w<g.n.toNat→vD g both c w x→True:=fun _ _ _ _ _ _ _=>trivial
 have key:∀ {x y:Nat},vD g both c x y→∀z,(a.getD y 0).testBit z=true→(a.getD x 0).testBit z=true:=by
  intro x y hR
  induction hR with
  |refl=>exact fun z hz=>hz
  | @fwd i hi hc _ ih=>
   intro z hz
   refine ih z ?_
   rw [← (dM i hi hc).1,Nat.testBit_or,hz,Bool.or_true]
  | @JU i hi hc hb _ ih=>
   intro z hz
   refine ih z ?_
   rw [← (dM i hi hc).2 hb];exact hz
 refine List.ext_getElem? fun x=> ?_
 by_cases hx:x<g.n.toNat
 ·have e:a.getD x 0=(DS g both c).getD x 0:=by
   rw [yK hx]
   refine Nat.eq_of_testBit_eq fun y=> ?_
   rw [Bool.eq_iff_iff,zX]
   refine⟨h.snd x y hx,fun⟨h1,h2⟩=>key h2 y (h.own y h1)⟩
  rw [List.getD_eq_getElem?_getD,List.getD_eq_getElem?_getD,List.getElem?_eq_getElem (by rw [h.len];exact hx),List.getElem?_eq_getElem (by rw [qq];exact hx)] at e
  rw [List.getElem?_eq_getElem (by rw [h.len];exact hx),List.getElem?_eq_getElem (by rw [qq];exact hx)]
  simpa using e
 ·rw [List.getElem?_eq_none (by rw [h.len];omega),List.getElem?_eq_none (by rw [qq];omega)]
end Go.Ab
end
section
namespace Go.Ab
open Go.Proofs
attribute [local congr] ACall.congr
set_option maxRecDepth 20000
set_option maxHeartbeats 8000000
def rU (n:Nat):List D:= [.sc (.int .u64 (n:Int))]
def eU (n:Nat):AV:= .d (.sc (.int .u64 (n:Int)))
def sU (l:List Nat):D:= .sl 1 (l.map rU)
theorem getD_rU (ps:List Nat)(i:Nat):(ps.map rU).getD i [.sc (.int .u64 0)]= [.sc (.int .u64 ((ps.getD i 0:Nat):Int))]:=by
 rw [List.getD_eq_getElem?_getD,List.getElem?_map,List.getD_eq_getElem?_getD]
 cases ps[i]? <;>rfl
theorem fD (l:List Nat)(k:Nat)(v:Nat):(l.map rU).set k [.sc (.int .u64 (v:Int))]=(l.set k v).map rU:=by
 rw [List.map_set];rfl
attribute [go_sem] eU sU getD_rU InU
theorem EU {s x:Nat} :decide ((((s >>> x &&& 1:Nat)):Int)=1)=s.testBit x:=by
 rw [Bool.eq_iff_iff,decide_eq_true_eq,Nat.testBit,Nat.and_comm]
 have:1 &&& s >>> x=0∨1 &&& s >>> x=1:=by
  rw [Nat.and_comm,Nat.and_one_is_mod];omega
 rcases this with h|h<;>rw [h]<;>simp
theorem lQ (s:Nat)(hs:s<18446744073709551616)(x:Int):Spec Tryz.prog 34 (Args [eU s,eN x]) [](eB (decide (0≤x)&&decide (x<64)&&s.testBit x.toNat)) []:=by
 by_cases h0:0≤x
 rotate_left
 ·have hb0:decide (0≤x)=false:=decide_eq_false h0
  (refine Spec.intro (C:=T.cfg [] [])(rs:= [.t 4])(T.au _ _)Tryz.func34 rfl rfl Tryz.ntmps34 Tryz.results34 (by simp [AObj.isNest])(by simp [AObj.isNest])(by kernel_rfl) ?_;intro X hX hP hC aI aJ vals hA;refine⟨_,by simp,hA, ?_⟩;have af:X.P.follows .mixedOrders=true:=(by rw [hP];exact T.mixed);clear aI aJ)
  repeat' (first|fail|((first|((with_reducible (first|apply oA|apply oB));exact rfl;intro K hK)|(refine hK _ ?_;clear hK K)|((with_reducible (first|apply oG|apply oH));iterate 3 exact rfl)|((with_reducible apply oI);(iterate 2 exact rfl);intro K hK)|(with_reducible (first|apply wI|apply wJ|apply wK)));try simp only [go_sem,simprocAttr,hb0])|fail|(with_reducible (first|apply oC|apply oJ|exact oK|apply wA|apply wB|apply wC hX hC|apply wD hX hC|apply wE hX hC af|apply wF hX hC af|apply wG|apply wH|apply And.intro))|((with_reducible refine oD ?_ ?_);first|fail|kernel_rfl)|((with_reducible (first|apply oE|apply oF));(iterate 3 exact rfl);all_goals (intro h;first|(exact absurd h (by decide))|((try simp only [go_sem,simprocAttr,hb0] at h);(try with_reducible intro K hK);simp only [go_sem,simprocAttr,hb0])))|((first|((with_reducible apply wL);exact rfl)|((with_reducible apply wM);exact rfl));all_goals (try ((with_reducible intro h);first|(exact absurd h (by decide))|(try simp only [go_sem,simprocAttr,hb0] at h))))|omega|((first|fail);try simp only [go_sem,simprocAttr,hb0])|(intro h))
 have hb0:decide (0≤x)=true:=decide_eq_true h0
 by_cases h1:x<64
 rotate_left
 ·have ak:decide (x<64)=false:=decide_eq_false h1
  (refine Spec.intro (C:=T.cfg [] [])(rs:= [.t 4])(T.au _ _)Tryz.func34 rfl rfl Tryz.ntmps34 Tryz.results34 (by simp [AObj.isNest])(by simp [AObj.isNest])(by kernel_rfl) ?_;intro X hX hP hC aI aJ vals hA;refine⟨_,by simp,hA, ?_⟩;have af:X.P.follows .mixedOrders=true:=(by rw [hP];exact T.mixed);clear aI aJ)
  repeat' (first|fail|((first|((with_reducible (first|apply oA|apply oB));exact rfl;intro K hK)|(refine hK _ ?_;clear hK K)|((with_reducible (first|apply oG|apply oH));iterate 3 exact rfl)|((with_reducible apply oI);(iterate 2 exact rfl);intro K hK)|(with_reducible (first|apply wI|apply wJ|apply wK)));try simp only [go_sem,simprocAttr,hb0,ak])|fail|(with_reducible (first|apply oC|apply oJ|exact oK|apply wA|apply wB|apply wC hX hC|apply wD hX hC|apply wE hX hC af|apply wF hX hC af|apply wG|apply wH|apply And.intro))|((with_reducible refine oD ?_ ?_);first|fail|kernel_rfl)|((with_reducible (first|apply oE|apply oF));(iterate 3 exact rfl);all_goals (intro h;first|(exact absurd h (by decide))|((try simp only [go_sem,simprocAttr,hb0,ak] at h);(try with_reducible intro K hK);simp only [go_sem,simprocAttr,hb0,ak])))|((first|((with_reducible apply wL);exact rfl)|((with_reducible apply wM);exact rfl));all_goals (try ((with_reducible intro h);first|(exact absurd h (by decide))|(try simp only [go_sem,simprocAttr,hb0,ak] at h))))|omega|((first|fail);try simp only [go_sem,simprocAttr,hb0,ak])|(intro h))
 have ak:decide (x<64)=true:=decide_eq_true h1
 obtain⟨i,rfl⟩:∃i:Nat,x=i:=⟨x.toNat,by omega⟩
 have hlt:s >>> i<18446744073709551616:=Nat.lt_of_le_of_lt (Nat.shiftRight_le s i)hs
 have ha:=EU (s:=s)(x:=i)
 generalize hq:s >>> i=q at hlt ha
 (refine Spec.intro (C:=T.cfg [] [])(rs:= [.t 4])(T.au _ _)Tryz.func34 rfl rfl Tryz.ntmps34 Tryz.results34 (by simp [AObj.isNest])(by simp [AObj.isNest])(by kernel_rfl) ?_;intro X hX hP hC aI aJ vals hA;refine⟨_,by simp,hA, ?_⟩;have af:X.P.follows .mixedOrders=true:=(by rw [hP];exact T.mixed);clear aI aJ)
 repeat' (first|fail|((first|((with_reducible (first|apply oA|apply oB));exact rfl;intro K hK)|(refine hK _ ?_;clear hK K)|((with_reducible (first|apply oG|apply oH));iterate 3 exact rfl)|((with_reducible apply oI);(iterate 2 exact rfl);intro K hK)|(with_reducible (first|apply wI|apply wJ|apply wK)));try simp only [go_sem,simprocAttr,hb0,ak,hq,ha])|fail|(with_reducible (first|apply oC|apply oJ|exact oK|apply wA|apply wB|apply wC hX hC|apply wD hX hC|apply wE hX hC af|apply wF hX hC af|apply wG|apply wH|apply And.intro))|((with_reducible refine oD ?_ ?_);first|fail|kernel_rfl)|((with_reducible (first|apply oE|apply oF));(iterate 3 exact rfl);all_goals (intro h;first|(exact absurd h (by decide))|((try simp only [go_sem,simprocAttr,hb0,ak,hq,ha] at h);(try with_reducible intro K hK);simp only [go_sem,simprocAttr,hb0,ak,hq,ha])))|((first|((with_reducible apply wL);exact rfl)|((with_reducible apply wM);exact rfl));all_goals (try ((with_reducible intro h);first|(exact absurd h (by decide))|(try simp only [go_sem,simprocAttr,hb0,ak,hq,ha] at h))))|omega|((first|fail);try simp only [go_sem,simprocAttr,hb0,ak,hq,ha])|(intro h))
theorem Dv (x:Nat)(hx:x<64):Spec Tryz.prog 96 (Args [.d (.sl 1 [[.sc (.int .i64 (x:Int))]])]) [](eU (2 ^ x)) []:=by
 have hsh:1 <<< x % 18446744073709551616=2 ^ x:=by
  rw [Nat.shiftLeft_eq,Nat.one_mul,Nat.mod_eq_of_lt]
  exact Nat.lt_of_lt_of_le (Nat.pow_lt_pow_right (by decide)hx)(by decide)
 have hlt:2 ^ x<18446744073709551616:=Nat.lt_of_lt_of_le (Nat.pow_lt_pow_right (by decide)hx)(by decide)
 have ak:decide (0≤(x:Int))=true:=decide_eq_true (by omega)
 have aq:decide ((x:Int)<64)=true:=decide_eq_true (by omega)
 (refine Spec.intro (C:=T.cfg [] [])(rs:= [.t 2])(T.au _ _)Tryz.func96 rfl rfl Tryz.ntmps96 Tryz.results96 (by simp [AObj.isNest])(by simp [AObj.isNest])(by kernel_rfl) ?_;intro X hX hP hC aI aJ vals hA;refine⟨_,by simp,hA, ?_⟩;have af:X.P.follows .mixedOrders=true:=(by rw [hP];exact T.mixed);clear aI aJ)
 repeat' (first|fail|((first|((with_reducible (first|apply oA|apply oB));exact rfl;intro K hK)|(refine hK _ ?_;clear hK K)|((with_reducible (first|apply oG|apply oH));iterate 3 exact rfl)|((with_reducible apply oI);(iterate 2 exact rfl);intro K hK)|(with_reducible (first|apply wI|apply wJ|apply wK)));try simp only [go_sem,simprocAttr])|fail|(with_reducible (first|apply oC|apply oJ|exact oK|apply wA|apply wB|apply wC hX hC|apply wD hX hC|apply wE hX hC af|apply wF hX hC af|apply wG|apply wH|apply And.intro))|((with_reducible refine oD ?_ ?_);first|fail|kernel_rfl)|((with_reducible (first|apply oE|apply oF));(iterate 3 exact rfl);all_goals (intro h;first|(exact absurd h (by decide))|((try simp only [go_sem,simprocAttr] at h);(try with_reducible intro K hK);simp only [go_sem,simprocAttr])))|((first|((with_reducible apply wL);exact rfl)|((with_reducible apply wM);exact rfl));all_goals (try ((with_reducible intro h);first|(exact absurd h (by decide))|(try simp only [go_sem,simprocAttr] at h))))|omega|((first|fail);try simp only [go_sem,simprocAttr])|(intro h))
 refine an (fun k:Nat=>k≤1)(fun k=>⟨[(2,eU (if k=0 then 0 else 2 ^ x)),(5, .d (.sl 1 [[.sc (.int .i64 (x:Int))]])),(6,eN 1),(7,eN k)], []⟩)(fun k=>1 - k)0 (by omega) ?_ ?_
 ·refine Le.of ?_ ?_<;>simp [go_sem,simprocAttr]
 rintro k hk
 match k,hk with
 |0,_=>
  repeat' (first|fail|((first|((with_reducible (first|apply oA|apply oB));exact rfl;intro K hK)|(refine hK _ ?_;clear hK K)|((with_reducible (first|apply oG|apply oH));iterate 3 exact rfl)|((with_reducible apply oI);(iterate 2 exact rfl);intro K hK)|(with_reducible (first|apply wI|apply wJ|apply wK)));try simp only [go_sem,simprocAttr,hsh,ak,aq,Nat.zero_or])|fail|(with_reducible (first|apply oC|apply oJ|exact oK|apply wA|apply wB|apply wC hX hC|apply wD hX hC|apply wE hX hC af|apply wF hX hC af|apply wG|apply wH|apply And.intro))|((with_reducible refine oD ?_ ?_);first|fail|kernel_rfl)|((with_reducible (first|apply oE|apply oF));(iterate 3 exact rfl);all_goals (intro h;first|(exact absurd h (by decide))|((try simp only [go_sem,simprocAttr,hsh,ak,aq,Nat.zero_or] at h);(try with_reducible intro K hK);simp only [go_sem,simprocAttr,hsh,ak,aq,Nat.zero_or])))|((first|((with_reducible apply wL);exact rfl)|((with_reducible apply wM);exact rfl));all_goals (try ((with_reducible intro h);first|(exact absurd h (by decide))|(try simp only [go_sem,simprocAttr,hsh,ak,aq,Nat.zero_or] at h))))|omega|((first|fail);try simp only [go_sem,simprocAttr,hsh,ak,aq,Nat.zero_or])|(intro h))
  all_goals (refine⟨1,by omega, ?_,by omega⟩)
  all_goals (refine Le.of ?_ ?_<;>simp [go_sem,simprocAttr,hsh,ak,aq,Nat.zero_or])
 |1,_=>
  repeat' (first|fail|((first|((with_reducible (first|apply oA|apply oB));exact rfl;intro K hK)|(refine hK _ ?_;clear hK K)|((with_reducible (first|apply oG|apply oH));iterate 3 exact rfl)|((with_reducible apply oI);(iterate 2 exact rfl);intro K hK)|(with_reducible (first|apply wI|apply wJ|apply wK)));try simp only [go_sem,simprocAttr])|fail|(with_reducible (first|apply oC|apply oJ|exact oK|apply wA|apply wB|apply wC hX hC|apply wD hX hC|apply wE hX hC af|apply wF hX hC af|apply wG|apply wH|apply And.intro))|((with_reducible refine oD ?_ ?_);first|fail|kernel_rfl)|((with_reducible (first|apply oE|apply oF));(iterate 3 exact rfl);all_goals (intro h;first|(exact absurd h (by decide))|((try simp only [go_sem,simprocAttr] at h);(try with_reducible intro K hK);simp only [go_sem,simprocAttr])))|((first|((with_reducible apply wL);exact rfl)|((with_reducible apply wM);exact rfl));all_goals (try ((with_reducible intro h);first|(exact absurd h (by decide))|(try simp only [go_sem,simprocAttr] at h))))|omega|((first|fail);try simp only [go_sem,simprocAttr])|(intro h))
end Go.Ab
end
section
namespace Go.Ab
open Go.Proofs
attribute [local congr] ACall.congr
set_option maxRecDepth 20000
set_option maxHeartbeats 8000000
def o9 (k:Nat):List Nat:=(List.range k).map fun x=>2 ^ x
theorem Bg {k:Nat} :o9 (k+1)=o9 k++ [2 ^ k]:=by simp [o9,List.range_succ]
theorem sY {k:Nat} :(o9 k).length=k:=by simp [o9]
def iP (g:Gr):List Nat:=if aM g=true then o9 g.n.toNat else []
theorem yM (g:Gr)(hl:g.es.length≤9223372036854775807):Spec Tryz.prog 66 (Args [eG g]) [](.ref 10000) [(10000, .own 60 1 ((iP g).map rU))]:=by
 have hM:=fy g hl
 cases hm:aM g with
 |false=>
  rw [hm] at hM
  have he:iP g= []:=by unfold iP;rw [hm];rfl
  rw [he]
  (refine Spec.ej (C:=T.cfg [200,17] [])(rs:= [.t 2]) [(10000,200)](T.au _ _)Tryz.func66 rfl rfl Tryz.ntmps66 Tryz.results66 (by simp [AObj.isNest])(by simp [AObj.isNest])(by first|(simp [look];done)|(simp [asN];done)|(intro l hl;simp only [asN];repeat (rw [if_neg (fun e=>by subst e;simp [look] at hl)])))(by first|(simp [look];done)|(simp [asN];done)|(intro l hl;simp only [asN];repeat (rw [if_neg (fun e=>by subst e;simp [look] at hl)])))(by kernel_rfl) ?_;intro X hX hP hC aI aJ vals hA;refine⟨_,by simp,hA, ?_⟩;have af:X.P.follows .mixedOrders=true:=(by rw [hP];exact T.mixed);clear aI aJ)
  repeat' (first|(show dF _ .ret _ _;(try simp only [go_sem,simprocAttr]);refine gN hX 2 200 (.own 60 1 []) ?_ ?_ (by decide)⟨60,1,by decide, .inl rfl⟩ ?_;(iterate 2 (focus (simp only [go_sem,simprocAttr];done)));simp only [go_sem,simprocAttr])|((first|((with_reducible (first|apply oA|apply oB));exact rfl;intro K hK)|(refine hK _ ?_;clear hK K)|((with_reducible (first|apply oG|apply oH));iterate 3 exact rfl)|((with_reducible apply oI);(iterate 2 exact rfl);intro K hK)|(with_reducible (first|apply wI|apply wJ|apply wK)));try simp only [go_sem,simprocAttr])|fail|(with_reducible (first|apply oC|apply oJ|exact oK|apply wA|apply wB|apply wC hX hC|apply wD hX hC|apply wE hX hC af|apply wF hX hC af|apply wG|apply wH|apply And.intro))|((with_reducible refine oD ?_ ?_);first|fail|kernel_rfl)|((with_reducible (first|apply oE|apply oF));(iterate 3 exact rfl);all_goals (intro h;first|(exact absurd h (by decide))|((try simp only [go_sem,simprocAttr] at h);(try with_reducible intro K hK);simp only [go_sem,simprocAttr])))|((first|((with_reducible apply wL);exact rfl)|((with_reducible apply wM);exact rfl));all_goals (try ((with_reducible intro h);first|(exact absurd h (by decide))|(try simp only [go_sem,simprocAttr] at h))))|omega|((first|first|refine aa hX hC hP (hM)rfl rfl rfl (by simp only [go_sem,simprocAttr])rfl ?_);try simp only [go_sem,simprocAttr])|(intro h))
 |true=>
  rw [hm] at hM
  have hn:=aV hm
  have he:iP g=o9 g.n.toNat:=by unfold iP;rw [if_pos hm]
  rw [he]
  (refine Spec.ej (C:=T.cfg [200,17] [])(rs:= [.t 2]) [(10000,200)](T.au _ _)Tryz.func66 rfl rfl Tryz.ntmps66 Tryz.results66 (by simp [AObj.isNest])(by simp [AObj.isNest])(by first|(simp [look];done)|(simp [asN];done)|(intro l hl;simp only [asN];repeat (rw [if_neg (fun e=>by subst e;simp [look] at hl)])))(by first|(simp [look];done)|(simp [asN];done)|(intro l hl;simp only [asN];repeat (rw [if_neg (fun e=>by subst e;simp [look] at hl)])))(by kernel_rfl) ?_;intro X hX hP hC aI aJ vals hA;refine⟨_,by simp,hA, ?_⟩;have af:X.P.follows .mixedOrders=true:=(by rw [hP];exact T.mixed);clear aI aJ)
  repeat' (first|fail|((first|((with_reducible (first|apply oA|apply oB));exact rfl;intro K hK)|(refine hK _ ?_;clear hK K)|((with_reducible (first|apply oG|apply oH));iterate 3 exact rfl)|((with_reducible apply oI);(iterate 2 exact rfl);intro K hK)|(with_reducible (first|apply wI|apply wJ|apply wK)));try simp only [go_sem,simprocAttr])|(show dF _ (.seq (.region 3 _ _)_)_ _;(refine gN hX 2 200 (.own 60 1 []) ?_ ?_ (by decide)⟨60,1,by decide, .inl rfl⟩ ?_;(iterate 2 (focus (simp only [go_sem,simprocAttr];done)));simp only [go_sem,simprocAttr]))|(with_reducible (first|apply oC|apply oJ|exact oK|apply wA|apply wB|apply wC hX hC|apply wD hX hC|apply wE hX hC af|apply wF hX hC af|apply wG|apply wH|apply And.intro))|((with_reducible refine oD ?_ ?_);first|fail|kernel_rfl)|((with_reducible (first|apply oE|apply oF));(iterate 3 exact rfl);all_goals (intro h;first|(exact absurd h (by decide))|((try simp only [go_sem,simprocAttr] at h);(try with_reducible intro K hK);simp only [go_sem,simprocAttr])))|((first|((with_reducible apply wL);exact rfl)|((with_reducible apply wM);exact rfl));all_goals (try ((with_reducible intro h);first|(exact absurd h (by decide))|(try simp only [go_sem,simprocAttr] at h))))|omega|((first|first|refine aa hX hC hP (hM)rfl rfl rfl (by simp only [go_sem,simprocAttr])rfl ?_);try simp only [go_sem,simprocAttr])|(intro h))
  refine an (fun k:Nat=>k≤g.n.toNat)(fun k=>⟨[(2, .ref 200),(8,eN g.n),(9,eN k)], [(200, .own 60 1 ((o9 k).map rU))]⟩)(fun k=>g.n.toNat - k)0 (by omega) ?_ ?_
  ·refine Le.of ?_ ?_<;>simp [go_sem,simprocAttr,o9]
  rintro k hk
  rcases Nat.lt_or_ge k g.n.toNat with hlt|hge
  ·have hb:decide ((k:Int)<g.n)=true:=decide_eq_true (by omega)
   have qO:=sY (k:=k)
   have dr:=Bg (k:=k)
   have Pu:=Dv k (by omega)
   generalize o9 k=O1 at qO dr
   repeat' (first|fail|((first|((with_reducible (first|apply oA|apply oB));exact rfl;intro K hK)|(refine hK _ ?_;clear hK K)|((with_reducible (first|apply oG|apply oH));iterate 3 exact rfl)|((with_reducible apply oI);(iterate 2 exact rfl);intro K hK)|(with_reducible (first|apply wI|apply wJ|apply wK)));try simp only [go_sem,simprocAttr,hb,qO])|(show dF _ (.region 7 _ _)_ _;(refine kN hX 2 17 200 (by simp only [go_sem,simprocAttr,hb,qO])rfl (by first|exact .inl rfl|exact .inr rfl)(by decide) ?_;simp only [go_sem,simprocAttr,hb,qO]))|(with_reducible (first|apply oC|apply oJ|exact oK|apply wA|apply wB|apply wC hX hC|apply wD hX hC|apply wE hX hC af|apply wF hX hC af|apply wG|apply wH|apply And.intro))|((with_reducible refine oD ?_ ?_);first|fail|kernel_rfl)|((with_reducible (first|apply oE|apply oF));(iterate 3 exact rfl);all_goals (intro h;first|(exact absurd h (by decide))|((try simp only [go_sem,simprocAttr,hb,qO] at h);(try with_reducible intro K hK);simp only [go_sem,simprocAttr,hb,qO])))|((first|((with_reducible apply wL);exact rfl)|((with_reducible apply wM);exact rfl));all_goals (try ((with_reducible intro h);first|(exact absurd h (by decide))|(try simp only [go_sem,simprocAttr,hb,qO] at h))))|omega|((first|first|(refine bH hX hC hP (Pu)rfl rfl rfl ?_ ?_ rfl ?_;iterate 2 (focus (simp only [go_sem,simprocAttr,hb,qO];done))));try simp only [go_sem,simprocAttr,hb,qO])|(intro h))
   refine⟨k+1,by omega, ?_,by omega⟩
   rw [dr]
   refine Le.of ?_ ?_<;>simp [go_sem,simprocAttr,hb,qO,rU]
  ·have hb:decide ((k:Int)<g.n)=false:=decide_eq_false (by omega)
   obtain rfl:k=g.n.toNat:=by omega
   repeat' (first|fail|((first|((with_reducible (first|apply oA|apply oB));exact rfl;intro K hK)|(refine hK _ ?_;clear hK K)|((with_reducible (first|apply oG|apply oH));iterate 3 exact rfl)|((with_reducible apply oI);(iterate 2 exact rfl);intro K hK)|(with_reducible (first|apply wI|apply wJ|apply wK)));try simp only [go_sem,simprocAttr,hb])|fail|(with_reducible (first|apply oC|apply oJ|exact oK|apply wA|apply wB|apply wC hX hC|apply wD hX hC|apply wE hX hC af|apply wF hX hC af|apply wG|apply wH|apply And.intro))|((with_reducible refine oD ?_ ?_);first|fail|kernel_rfl)|((with_reducible (first|apply oE|apply oF));(iterate 3 exact rfl);all_goals (intro h;first|(exact absurd h (by decide))|((try simp only [go_sem,simprocAttr,hb] at h);(try with_reducible intro K hK);simp only [go_sem,simprocAttr,hb])))|((first|((with_reducible apply wL);exact rfl)|((with_reducible apply wM);exact rfl));all_goals (try ((with_reducible intro h);first|(exact absurd h (by decide))|(try simp only [go_sem,simprocAttr,hb] at h))))|omega|((first|fail);try simp only [go_sem,simprocAttr,hb])|(intro h))
theorem ND {a b:Nat} :(!decide ((a:Int)=(b:Int)))=decide (a≠b):=by
 by_cases h:a=b
 ·simp [h]
 ·simp [h];omega
theorem EV {g:Gr} (hn:g.n.toNat≤64)(both:Bool)(c:Nat→Bool):∃M:Nat,∀b:List Nat,Bv g both c b→sX b≤M:=
 ⟨_,fun b hb=>by have:=xJ (a:=b)fun x=>hb.lt hn x;rw [hb.len] at this;exact this⟩
theorem yN (g:Gr)(hm:aM g=true)(both:Bool)(c:Nat→Bool)(F:Nat)(hF:∀i,i<g.es.length→Spec Tryz.prog F (Args [eN i]) [](eB (c i)) [])(a0:List Nat)(h0:Bv g both c a0):
  Spec Tryz.prog 67 (Args [eG g, .ref 10000,eB both, .fn F [] []]) [(10000, .own 60 1 (a0.map rU))](.tup []) [(10000, .own 60 1 ((DS g both c).map rU))]:=by
 have hn:=aV hm
 obtain⟨M,hM⟩:=EV (g:=g)(by omega)both c
 (refine Spec.intro (C:=T.cfg [] [])(rs:= [])(T.au _ _)Tryz.func67 rfl rfl Tryz.ntmps67 Tryz.results67 (by simp [AObj.isNest])(by simp [AObj.isNest])(by kernel_rfl) ?_;intro X hX hP hC aI aJ vals hA;refine⟨_,by simp,hA, ?_⟩;have af:X.P.follows .mixedOrders=true:=(by rw [hP];exact T.mixed);clear aI aJ)
 repeat' (first|fail|((first|((with_reducible (first|apply oA|apply oB));exact rfl;intro K hK)|(refine hK _ ?_;clear hK K)|((with_reducible (first|apply oG|apply oH));iterate 3 exact rfl)|((with_reducible apply oI);(iterate 2 exact rfl);intro K hK)|(with_reducible (first|apply wI|apply wJ|apply wK)));try simp only [go_sem,simprocAttr])|fail|(with_reducible (first|apply oC|apply oJ|exact oK|apply wA|apply wB|apply wC hX hC|apply wD hX hC|apply wE hX hC af|apply wF hX hC af|apply wG|apply wH|apply And.intro))|((with_reducible refine oD ?_ ?_);first|fail|kernel_rfl)|((with_reducible (first|apply oE|apply oF));(iterate 3 exact rfl);all_goals (intro h;first|(exact absurd h (by decide))|((try simp only [go_sem,simprocAttr] at h);(try with_reducible intro K hK);simp only [go_sem,simprocAttr])))|((first|((with_reducible apply wL);exact rfl)|((with_reducible apply wM);exact rfl));all_goals (try ((with_reducible intro h);first|(exact absurd h (by decide))|(try simp only [go_sem,simprocAttr] at h))))|omega|((first|fail);try simp only [go_sem,simprocAttr])|(intro h))
 refine an (fun s:List Nat × Bool=>Bv g both c s.1∧(s.2=false→s.1=DS g both c))(fun s=>⟨[(1, .ref 10000),(2,eB both),(3, .fn F [] []),(4, .ptr 4 0),(8,eB s.2)], [(10000, .own 60 1 (s.1.map rU)),(4, .box [eN g.n, .d (sE g.es)])]⟩)(fun s=>2*(M - sX s.1)+(if s.2=true then 1 else 0))(a0,true)⟨h0,by simp⟩ ?_ ?_
 ·refine Le.of ?_ ?_<;>simp [go_sem,simprocAttr]
 rintro⟨a,more⟩⟨hG,pU⟩
 simp only at hG pU ⊢
 cases more with
 |false=>
  have:=pU rfl
  subst this
  repeat' (first|fail|((first|((with_reducible (first|apply oA|apply oB));exact rfl;intro K hK)|(refine hK _ ?_;clear hK K)|((with_reducible (first|apply oG|apply oH));iterate 3 exact rfl)|((with_reducible apply oI);(iterate 2 exact rfl);intro K hK)|(with_reducible (first|apply wI|apply wJ|apply wK)));try simp only [go_sem,simprocAttr])|fail|(with_reducible (first|apply oC|apply oJ|exact oK|apply wA|apply wB|apply wC hX hC|apply wD hX hC|apply wE hX hC af|apply wF hX hC af|apply wG|apply wH|apply And.intro))|((with_reducible refine oD ?_ ?_);first|fail|kernel_rfl)|((with_reducible (first|apply oE|apply oF));(iterate 3 exact rfl);all_goals (intro h;first|(exact absurd h (by decide))|((try simp only [go_sem,simprocAttr] at h);(try with_reducible intro K hK);simp only [go_sem,simprocAttr])))|((first|((with_reducible apply wL);exact rfl)|((with_reducible apply wM);exact rfl));all_goals (try ((with_reducible intro h);first|(exact absurd h (by decide))|(try simp only [go_sem,simprocAttr] at h))))|omega|((first|fail);try simp only [go_sem,simprocAttr])|(intro h))
 |true=>
 repeat' (first|fail|((first|((with_reducible (first|apply oA|apply oB));exact rfl;intro K hK)|(refine hK _ ?_;clear hK K)|((with_reducible (first|apply oG|apply oH));iterate 3 exact rfl)|((with_reducible apply oI);(iterate 2 exact rfl);intro K hK)|(with_reducible (first|apply wI|apply wJ|apply wK)));try simp only [go_sem,simprocAttr])|fail|(with_reducible (first|apply oC|apply oJ|exact oK|apply wA|apply wB|apply wC hX hC|apply wD hX hC|apply wE hX hC af|apply wF hX hC af|apply wG|apply wH|apply And.intro))|((with_reducible refine oD ?_ ?_);first|fail|kernel_rfl)|((with_reducible (first|apply oE|apply oF));(iterate 3 exact rfl);all_goals (intro h;first|(exact absurd h (by decide))|((try simp only [go_sem,simprocAttr] at h);(try with_reducible intro K hK);simp only [go_sem,simprocAttr])))|((first|((with_reducible apply wL);exact rfl)|((with_reducible apply wM);exact rfl));all_goals (try ((with_reducible intro h);first|(exact absurd h (by decide))|(try simp only [go_sem,simprocAttr] at h))))|omega|((first|fail);try simp only [go_sem,simprocAttr])|(intro h))
 refine an (fun k:Nat=>k≤g.es.length)(fun k=>⟨[(1, .ref 10000),(2,eB both),(3, .fn F [] []),(4, .ptr 4 0),(8,eB (bM g both c a k).2),(15, .d (sE g.es)),(16,eN g.es.length),(17,eN k)], [(10000, .own 60 1 ((bM g both c a k).1.map rU)),(4, .box [eN g.n, .d (sE g.es)])]⟩)(fun k=>g.es.length - k)0 (by omega) ?_ ?_
 ·refine Le.of ?_ ?_<;>simp [go_sem,simprocAttr,bM]
 rintro k hk
 rcases Nat.lt_or_ge k g.es.length with hlt|hge
 rotate_left
 ·have hb:decide ((k:Int)<(g.es.length:Int))=false:=decide_eq_false (by omega)
  obtain rfl:k=g.es.length:=by omega
  obtain⟨i1,_⟩:=gX hm hG (Nat.le_refl g.es.length)
  have JW:=yL hm hG
  have Fk:=iz (g:=g)(both:=both)(c:=c)(a:=a)(k:=g.es.length)
  have hdone:=Bf hm hG
  have BY:=hM _ i1
  generalize bM g both c a g.es.length=R at*
  repeat' (first|fail|((first|((with_reducible (first|apply oA|apply oB));exact rfl;intro K hK)|(refine hK _ ?_;clear hK K)|((with_reducible (first|apply oG|apply oH));iterate 3 exact rfl)|((with_reducible apply oI);(iterate 2 exact rfl);intro K hK)|(with_reducible (first|apply wI|apply wJ|apply wK)));try simp only [go_sem,simprocAttr,hb])|fail|(with_reducible (first|apply oC|apply oJ|exact oK|apply wA|apply wB|apply wC hX hC|apply wD hX hC|apply wE hX hC af|apply wF hX hC af|apply wG|apply wH|apply And.intro))|((with_reducible refine oD ?_ ?_);first|fail|kernel_rfl)|((with_reducible (first|apply oE|apply oF));(iterate 3 exact rfl);all_goals (intro h;first|(exact absurd h (by decide))|((try simp only [go_sem,simprocAttr,hb] at h);(try with_reducible intro K hK);simp only [go_sem,simprocAttr,hb])))|((first|((with_reducible apply wL);exact rfl)|((with_reducible apply wM);exact rfl));all_goals (try ((with_reducible intro h);first|(exact absurd h (by decide))|(try simp only [go_sem,simprocAttr,hb] at h))))|omega|((first|fail);try simp only [go_sem,simprocAttr,hb])|(intro h))
  refine⟨(R.1,R.2),⟨i1,fun hf=> ?_⟩, ?_, ?_⟩
  ·rw [(Fk hf).1];exact hdone hf
  ·refine Le.of ?_ ?_<;>simp [go_sem,simprocAttr,hb]
  ·cases NF:R.2 with
   |true=>have:=JW NF;simp;omega
   |false=>rw [(Fk NF).1];simp
 have hb:decide ((k:Int)<(g.es.length:Int))=true:=decide_eq_true (by omega)
 obtain⟨Ki,_⟩:=gX hm hG (k:=k)(by omega)
 obtain⟨ht,hh⟩:=dK hm hlt
 have GQ:=hF k hlt
 have xT:=Ki.len
 have yO:=Ki.lt (by omega)
 obtain⟨x,hx⟩:∃x:Nat,(g.es.getD k (0,0)).1=x:=⟨(g.es.getD k (0,0)).1.toNat,by omega⟩
 obtain⟨y,hy⟩:∃y:Nat,(g.es.getD k (0,0)).2=y:=⟨(g.es.getD k (0,0)).2.toNat,by omega⟩
 have Bo:(tl g k).toNat=x:=by show ((g.es.getD k (0,0)).1).toNat=x;rw [hx];rfl
 have Mp:(hd g k).toNat=y:=by show ((g.es.getD k (0,0)).2).toNat=y;rw [hy];rfl
 have dr:bM g both c a (k+1)=if c k=true then ((((bM g both c a k).1.set x ((bM g both c a k).1.getD x 0 ||| (bM g both c a k).1.getD y 0)).set y (if both=true then (bM g both c a k).1.getD x 0 ||| (bM g both c a k).1.getD y 0 else (bM g both c a k).1.getD y 0)),(bM g both c a k).2||(decide ((bM g both c a k).1.getD x 0 ||| (bM g both c a k).1.getD y 0≠(bM g both c a k).1.getD x 0)||decide ((if both=true then (bM g both c a k).1.getD x 0 ||| (bM g both c a k).1.getD y 0 else (bM g both c a k).1.getD y 0)≠(bM g both c a k).1.getD y 0)))else bM g both c a k:=by
  simp only [bM,Bo,Mp]
 generalize bM g both c a k=R at Ki xT yO dr
 obtain⟨A,m1⟩:=R
 simp only at Ki xT yO dr ⊢
 have Pv:=yO x
 have Pw:=yO y
 cases hc:c k with
 |false=>
  rw [hc] at GQ dr
  repeat' (first|fail|((first|((with_reducible (first|apply oA|apply oB));exact rfl;intro K hK)|(refine hK _ ?_;clear hK K)|((with_reducible (first|apply oG|apply oH));iterate 3 exact rfl)|((with_reducible apply oI);(iterate 2 exact rfl);intro K hK)|(with_reducible (first|apply wI|apply wJ|apply wK)));try simp only [go_sem,simprocAttr,hb,hx,hy])|fail|(with_reducible (first|apply oC|apply oJ|exact oK|apply wA|apply wB|apply wC hX hC|apply wD hX hC|apply wE hX hC af|apply wF hX hC af|apply wG|apply wH|apply And.intro))|((with_reducible refine oD ?_ ?_);first|fail|kernel_rfl)|((with_reducible (first|apply oE|apply oF));(iterate 3 exact rfl);all_goals (intro h;first|(exact absurd h (by decide))|((try simp only [go_sem,simprocAttr,hb,hx,hy] at h);(try with_reducible intro K hK);simp only [go_sem,simprocAttr,hb,hx,hy])))|((first|((with_reducible apply wL);exact rfl)|((with_reducible apply wM);exact rfl));all_goals (try ((with_reducible intro h);first|(exact absurd h (by decide))|(try simp only [go_sem,simprocAttr,hb,hx,hy] at h))))|omega|((first|first|refine aa hX hC hP (GQ)rfl rfl rfl (by simp only [go_sem,simprocAttr,hb,hx,hy])rfl ?_);try simp only [go_sem,simprocAttr,hb,hx,hy])|(intro h))
  refine⟨k+1,by omega, ?_,by omega⟩
  rw [dr]
  refine Le.of ?_ ?_<;>simp [go_sem,simprocAttr,hb,hx,hy]
 |true=>
  rw [hc] at GQ dr
  rw [if_pos rfl] at dr
  have n1:=ND (a:=A.getD x 0 ||| A.getD y 0)(b:=A.getD x 0)
  have n2:=ND (a:=if both=true then A.getD x 0 ||| A.getD y 0 else A.getD y 0)(b:=A.getD y 0)
  have MJ:A.getD x 0 ||| A.getD y 0<18446744073709551616:=Nat.or_lt_two_pow (n:=64)Pv Pw
  have Gw:(A.set x (A.getD x 0 ||| A.getD y 0)).length=A.length:=List.length_set ..
  generalize uP:A.getD x 0 ||| A.getD y 0=t at n1 n2 dr MJ Gw
  generalize NG:decide (t≠A.getD x 0)=d1 at n1 dr
  cases both with
  |true=>
   rw [if_pos rfl] at n2 dr
   generalize MK:decide (t≠A.getD y 0)=d2 at n2 dr
   clear NG MK
   cases m1<;>cases d1<;>cases d2<;>simp only [Bool.or_false,Bool.or_true,Bool.false_or,Bool.true_or] at dr
   all_goals (repeat' (first|fail|((first|((with_reducible (first|apply oA|apply oB));exact rfl;intro K hK)|(refine hK _ ?_;clear hK K)|((with_reducible (first|apply oG|apply oH));iterate 3 exact rfl)|((with_reducible apply oI);(iterate 2 exact rfl);intro K hK)|(with_reducible (first|apply wI|apply wJ|apply wK)));try simp only [go_sem,simprocAttr,hb,hx,hy,uP,n1,n2,xT,fD,List.length_set])|fail|(with_reducible (first|apply oC|apply oJ|exact oK|apply wA|apply wB|apply wC hX hC|apply wD hX hC|apply wE hX hC af|apply wF hX hC af|apply wG|apply wH|apply And.intro))|((with_reducible refine oD ?_ ?_);first|fail|kernel_rfl)|((with_reducible (first|apply oE|apply oF));(iterate 3 exact rfl);all_goals (intro h;first|(exact absurd h (by decide))|((try simp only [go_sem,simprocAttr,hb,hx,hy,uP,n1,n2,xT,fD,List.length_set] at h);(try with_reducible intro K hK);simp only [go_sem,simprocAttr,hb,hx,hy,uP,n1,n2,xT,fD,List.length_set])))|((first|((with_reducible apply wL);exact rfl)|((with_reducible apply wM);exact rfl));all_goals (try ((with_reducible intro h);first|(exact absurd h (by decide))|(try simp only [go_sem,simprocAttr,hb,hx,hy,uP,n1,n2,xT,fD,List.length_set] at h))))|omega|((first|first|refine aa hX hC hP (GQ)rfl rfl rfl (by simp only [go_sem,simprocAttr,hb,hx,hy,uP,n1,n2,xT,fD,List.length_set])rfl ?_);try simp only [go_sem,simprocAttr,hb,hx,hy,uP,n1,n2,xT,fD,List.length_set])|(intro h)))
   all_goals (refine⟨k+1,by omega, ?_,by omega⟩)
   all_goals (rw [dr])
   all_goals (refine Le.of ?_ ?_<;>simp [go_sem,simprocAttr,hb,hx,hy,uP,n1,n2,xT,fD,List.length_set])
  |false=>
   rw [if_neg (by simp)] at n2 dr
   have MK:decide (A.getD y 0≠A.getD y 0)=false:=decide_eq_false fun h=>h rfl
   rw [MK] at n2 dr
   clear NG
   cases m1<;>cases d1<;>simp only [Bool.or_false,Bool.or_true,Bool.false_or,Bool.true_or] at dr
   all_goals (repeat' (first|fail|((first|((with_reducible (first|apply oA|apply oB));exact rfl;intro K hK)|(refine hK _ ?_;clear hK K)|((with_reducible (first|apply oG|apply oH));iterate 3 exact rfl)|((with_reducible apply oI);(iterate 2 exact rfl);intro K hK)|(with_reducible (first|apply wI|apply wJ|apply wK)));try simp only [go_sem,simprocAttr,hb,hx,hy,uP,n1,n2,xT,fD,List.length_set])|fail|(with_reducible (first|apply oC|apply oJ|exact oK|apply wA|apply wB|apply wC hX hC|apply wD hX hC|apply wE hX hC af|apply wF hX hC af|apply wG|apply wH|apply And.intro))|((with_reducible refine oD ?_ ?_);first|fail|kernel_rfl)|((with_reducible (first|apply oE|apply oF));(iterate 3 exact rfl);all_goals (intro h;first|(exact absurd h (by decide))|((try simp only [go_sem,simprocAttr,hb,hx,hy,uP,n1,n2,xT,fD,List.length_set] at h);(try with_reducible intro K hK);simp only [go_sem,simprocAttr,hb,hx,hy,uP,n1,n2,xT,fD,List.length_set])))|((first|((with_reducible apply wL);exact rfl)|((with_reducible apply wM);exact rfl));all_goals (try ((with_reducible intro h);first|(exact absurd h (by decide))|(try simp only [go_sem,simprocAttr,hb,hx,hy,uP,n1,n2,xT,fD,List.length_set] at h))))|omega|((first|first|refine aa hX hC hP (GQ)rfl rfl rfl (by simp only [go_sem,simprocAttr,hb,hx,hy,uP,n1,n2,xT,fD,List.length_set])rfl ?_);try simp only [go_sem,simprocAttr,hb,hx,hy,uP,n1,n2,xT,fD,List.length_set])|(intro h)))
   all_goals (refine⟨k+1,by omega, ?_,by omega⟩)
   all_goals (rw [dr])
   all_goals (refine Le.of ?_ ?_<;>simp [go_sem,simprocAttr,hb,hx,hy,uP,n1,n2,xT,fD,List.length_set])
theorem zm {l:List Nat} :∀r∈l.map rU,∀x∈r,∃v,x=D.sc v:=by
 intro r hr x hx
 obtain⟨y,_,rfl⟩:=List.mem_map.1 hr
 simp only [rU,List.mem_singleton] at hx
 exact⟨_,hx⟩
theorem yP (i:Nat):Spec Tryz.prog 68 (Args [eN i]) [](eB true) []:=by
 (refine Spec.intro (C:=T.cfg [] [])(rs:= [.t 2])(T.au _ _)Tryz.func68 rfl rfl Tryz.ntmps68 Tryz.results68 (by simp [AObj.isNest])(by simp [AObj.isNest])(by kernel_rfl) ?_;intro X hX hP hC aI aJ vals hA;refine⟨_,by simp,hA, ?_⟩;have af:X.P.follows .mixedOrders=true:=(by rw [hP];exact T.mixed);clear aI aJ)
 repeat' (first|fail|((first|((with_reducible (first|apply oA|apply oB));exact rfl;intro K hK)|(refine hK _ ?_;clear hK K)|((with_reducible (first|apply oG|apply oH));iterate 3 exact rfl)|((with_reducible apply oI);(iterate 2 exact rfl);intro K hK)|(with_reducible (first|apply wI|apply wJ|apply wK)));try simp only [go_sem,simprocAttr])|fail|(with_reducible (first|apply oC|apply oJ|exact oK|apply wA|apply wB|apply wC hX hC|apply wD hX hC|apply wE hX hC af|apply wF hX hC af|apply wG|apply wH|apply And.intro))|((with_reducible refine oD ?_ ?_);first|fail|kernel_rfl)|((with_reducible (first|apply oE|apply oF));(iterate 3 exact rfl);all_goals (intro h;first|(exact absurd h (by decide))|((try simp only [go_sem,simprocAttr] at h);(try with_reducible intro K hK);simp only [go_sem,simprocAttr])))|((first|((with_reducible apply wL);exact rfl)|((with_reducible apply wM);exact rfl));all_goals (try ((with_reducible intro h);first|(exact absurd h (by decide))|(try simp only [go_sem,simprocAttr] at h))))|omega|((first|first|refine aa hX hC hP (GQ)rfl rfl rfl (by simp only [go_sem,simprocAttr])rfl ?_);try simp only [go_sem,simprocAttr])|(intro h))
theorem Bh {g:Gr} (hm:aM g=true) {both:Bool} {c:Nat→Bool} :Bv g both c (iP g):=by
 have he:iP g=o9 g.n.toNat:=by unfold iP;rw [if_pos hm]
 have Bt:∀x,x<g.n.toNat→(o9 g.n.toNat).getD x 0=2 ^ x:=fun x hx=>by simp [o9,List.getD_eq_getElem?_getD,List.getElem?_range hx]
 rw [he]
 refine⟨sY,fun x hx=>by rw [Bt x hx,Nat.testBit_two_pow_self],fun x y hx hb=> ?_⟩
 rw [Bt x hx,Nat.testBit_two_pow] at hb
 have:x=y:=of_decide_eq_true hb
 subst this
 exact⟨hx, .refl⟩
noncomputable def tg (g:Gr):List Nat:=if aM g=true then DS g false (fun _=>true)else []
theorem uq (g:Gr)(hl:g.es.length≤9223372036854775807):Spec Tryz.prog 33 (Args [eG g]) [](.d (sU (tg g))) []:=by
 have hE:=yM g hl
 cases hm:aM g with
 |false=>
  have he:iP g= []:=by unfold iP;rw [hm];rfl
  have hf:tg g= []:=by unfold tg;rw [hm];rfl
  rw [he] at hE
  rw [hf]
  (refine Spec.intro (C:=T.cfg [] [])(rs:= [.t 2])(T.au _ _)Tryz.func33 rfl rfl Tryz.ntmps33 Tryz.results33 (by simp [AObj.isNest])(by simp [AObj.isNest])(by kernel_rfl) ?_;intro X hX hP hC aI aJ vals hA;refine⟨_,by simp,hA, ?_⟩;have af:X.P.follows .mixedOrders=true:=(by rw [hP];exact T.mixed);clear aI aJ)
  repeat' (first|fail|((first|((with_reducible (first|apply oA|apply oB));exact rfl;intro K hK)|(refine hK _ ?_;clear hK K)|((with_reducible (first|apply oG|apply oH));iterate 3 exact rfl)|((with_reducible apply oI);(iterate 2 exact rfl);intro K hK)|(with_reducible (first|apply wI|apply wJ|apply wK)));try simp only [go_sem,simprocAttr])|fail|(with_reducible (first|apply oC|apply oJ|exact oK|apply wA|apply wB|apply wC hX hC|apply wD hX hC|apply wE hX hC af|apply wF hX hC af|apply wG|apply wH|apply And.intro))|((with_reducible refine oD ?_ ?_);first|fail|kernel_rfl)|((with_reducible (first|apply oE|apply oF));(iterate 3 exact rfl);all_goals (intro h;first|(exact absurd h (by decide))|((try simp only [go_sem,simprocAttr] at h);(try with_reducible intro K hK);simp only [go_sem,simprocAttr])))|((first|((with_reducible apply wL);exact rfl)|((with_reducible apply wM);exact rfl));all_goals (try ((with_reducible intro h);first|(exact absurd h (by decide))|(try simp only [go_sem,simprocAttr] at h))))|omega|((first|first|(refine oa hX hC hP 5 (hE)rfl rfl rfl ?_ ?_ (by first|exact⟨_,_,_,rfl,zj⟩|exact⟨_,_,_,rfl,zk⟩|exact⟨_,_,_,rfl,zm⟩)rfl (by decide) ?_;(iterate 2 (focus (simp only [go_sem,simprocAttr];done)));simp only [go_sem,simprocAttr]));try simp only [go_sem,simprocAttr])|(intro h))
 |true=>
  have hn:=aV hm
  have he:(iP g).length=g.n.toNat:=by unfold iP;rw [if_pos hm];exact sY
  have hf:tg g=DS g false (fun _=>true):=by unfold tg;rw [if_pos hm]
  have hG:=yN g hm false (fun _=>true)68 (fun i _=>yP i)(iP g)(Bh hm)
  have hb:decide ((g.n.toNat:Int)=0)=false:=decide_eq_false (by omega)
  rw [hf]
  generalize iP g=U at hE he hG
  (refine Spec.intro (C:=T.cfg [] [])(rs:= [.t 2])(T.au _ _)Tryz.func33 rfl rfl Tryz.ntmps33 Tryz.results33 (by simp [AObj.isNest])(by simp [AObj.isNest])(by kernel_rfl) ?_;intro X hX hP hC aI aJ vals hA;refine⟨_,by simp,hA, ?_⟩;have af:X.P.follows .mixedOrders=true:=(by rw [hP];exact T.mixed);clear aI aJ)
  repeat' (first|fail|((first|((with_reducible (first|apply oA|apply oB));exact rfl;intro K hK)|(refine hK _ ?_;clear hK K)|((with_reducible (first|apply oG|apply oH));iterate 3 exact rfl)|((with_reducible apply oI);(iterate 2 exact rfl);intro K hK)|(with_reducible (first|apply wI|apply wJ|apply wK)));try simp only [go_sem,simprocAttr,he,hb])|fail|(with_reducible (first|apply oC|apply oJ|exact oK|apply wA|apply wB|apply wC hX hC|apply wD hX hC|apply wE hX hC af|apply wF hX hC af|apply wG|apply wH|apply And.intro))|((with_reducible refine oD ?_ ?_);first|fail|kernel_rfl)|((with_reducible (first|apply oE|apply oF));(iterate 3 exact rfl);all_goals (intro h;first|(exact absurd h (by decide))|((try simp only [go_sem,simprocAttr,he,hb] at h);(try with_reducible intro K hK);simp only [go_sem,simprocAttr,he,hb])))|((first|((with_reducible apply wL);exact rfl)|((with_reducible apply wM);exact rfl));all_goals (try ((with_reducible intro h);first|(exact absurd h (by decide))|(try simp only [go_sem,simprocAttr,he,hb] at h))))|omega|((first|first|(refine oa hX hC hP 5 (hE)rfl rfl rfl ?_ ?_ (by first|exact⟨_,_,_,rfl,zj⟩|exact⟨_,_,_,rfl,zk⟩|exact⟨_,_,_,rfl,zm⟩)rfl (by decide) ?_;(iterate 2 (focus (simp only [go_sem,simprocAttr,he,hb];done)));simp only [go_sem,simprocAttr,he,hb])|(refine aA hX hC hP [(10000,5)](hG)rfl rfl rfl ?_ ?_ ?_ ?_ ?_ ?_ ?_ ?_ ?_ ?_ ?_ ?_ ?_ ?_;(focus (simp only [go_sem,simprocAttr,he,hb];done));(iterate 12 (focus (simp [go_sem,simprocAttr,he,hb];done)));simp only [go_sem,simprocAttr,he,hb,List.map_cons,List.map_nil]));try simp only [go_sem,simprocAttr,he,hb])|(intro h))
end Go.Ab
end
section
namespace Go.Ab
open Go.Proofs
set_option maxRecDepth 10000
set_option linter.unusedSectionVars false
theorem Gp {G:Gr} {P:PS} {A B:Int→Int} (hm:aM G=true)(hl:G.es.length=P.m)(ht:∀i:Nat,i<P.m→tl G i=A i)(hh:∀i:Nat,i<P.m→hd G i=B i) {x:Nat} {y:Int} :
  P.Lp A B x y↔0≤y∧vD G false (fun _=>true)x y.toNat:=by
 constructor
 ·intro hp
  induction hp with
  |refl=>exact⟨by omega,by simp only [Int.toNat_natCast];exact .refl⟩
  | @step e _ he ih=>
   have h1:=he.1;have h2:=he.2
   have hi:e.toNat<G.es.length:=by omega
   have e1:=ht e.toNat (by omega)
   have e2:=hh e.toNat (by omega)
   rw [show ((e.toNat:Nat):Int)=e by omega] at e1 e2
   have:=bX hm hi
   rw [← e2]
   refine⟨this.1, .fwd hi rfl ?_⟩
   rw [e1];exact ih.2
 ·rintro⟨h0,hr⟩
  have key:∀z,vD G false (fun _=>true)x z→P.Lp A B x (z:Int):=by
   intro z hz
   induction hz with
   |refl=>exact .refl
   | @fwd i hi _ _ ih=>
    have h1:=bK hm hi
    have h2:=bX hm hi
    rw [show (((tl G i).toNat:Nat):Int)=tl G i by omega,ht i (by omega)] at ih
    rw [show (((hd G i).toNat:Nat):Int)=hd G i by omega,hh i (by omega)]
    exact .step (e:=(i:Int))ih⟨by omega,by omega⟩
   |JU _ _ h _ _=>cases h
  have:=key _ hr
  Ej [show ((y.toNat:Nat):Int)=y by omega] at this
theorem Gq {P:PS} {x y:Int} :P.lU x y↔P.Lp P.tl P.hd x y:=by
 constructor<;>intro hp
 ·induction hp with
  |refl=>exact .refl
  |step _ he ih=>exact .step ih he
 ·induction hp with
  |refl=>exact .refl
  |step _ he ih=>exact .step ih he
def kz (s:Nat)(x:Int):Bool:=decide (0≤x)&&decide (x<64)&&s.testBit x.toNat
theorem qs {G:Gr} {P:PS} {A B:Int→Int} (hm:aM G=true)(hl:G.es.length=P.m)(ht:∀i:Nat,i<P.m→tl G i=A i)(hh:∀i:Nat,i<P.m→hd G i=B i) {x y:Int} (hx:0≤x∧x<G.n)(hy:0≤y∧y<G.n):
  kz ((tg G).getD x.toNat 0)y=true↔P.Lp A B x y:=by
 have hn:=aV hm
 have h1:=Gp hm hl ht hh (x:=x.toNat)(y:=y)
 rw [show ((x.toNat:Nat):Int)=x by omega] at h1
 rw [h1]
 unfold kz tg
 rw [if_pos hm,yK (by omega)]
 simp only [Bool.and_eq_true,decide_eq_true_eq,zX]
 constructor
 ·exact fun h=>⟨hy.1,h.2.2⟩
 ·exact fun h=>⟨⟨hy.1,by omega⟩,by omega,h.2⟩
theorem vE {G:Gr} (hm:aM G=true):(tg G).length=G.n.toNat:=by
 unfold tg;rw [if_pos hm];exact qq
theorem Dw {G:Gr} (hm:aM G=true) {x:Nat} :(tg G).getD x 0<18446744073709551616:=by
 have hn:=aV hm
 by_cases hx:x<G.n.toNat
 ·unfold tg
  rw [if_pos hm,yK hx]
  have:JV G false (fun _=>true)x<2 ^ G.n.toNat:=ET
  exact Nat.lt_of_lt_of_le this (Nat.pow_le_pow_right (by decide)(show G.n.toNat≤64 by omega))
 ·rw [List.getD_eq_getElem?_getD,List.getElem?_eq_none (by rw [vE hm];omega)];decide
section
variable {P:PS} (h:P.Ok) {L R:Int→Int} {f0 f1:Int} {low:Int→Int} (F:P.gC L R f0 f1 low)
def Px (P:PS)(R:Int→Int)(f:Int):Nat→Nat
 |0=>0
 |j+1=>if R (P.sh j)=f then j+1 else Px P R f j
include h F
end
section
variable (g:Gr)(p:Pl)
def ur:Gr:=⟨(cN g p:Int)+1,(List.range g.es.length).map fun i:Nat=>(Lf g p i,Rf g p i)⟩
end
section
variable {g:Gr} {p:Pl}
theorem qt:(ur g p).es.length=g.es.length:=by simp [ur]
theorem Dx {i:Nat} (hi:i<g.es.length):tl (ur g p)i=Lf g p i:=by
 show ((ur g p).es.getD i (0,0)).1=_
 simp [ur,List.getD_eq_getElem?_getD,List.getElem?_range hi]
theorem Dy {i:Nat} (hi:i<g.es.length):hd (ur g p)i=Rf g p i:=by
 show ((ur g p).es.getD i (0,0)).2=_
 simp [ur,List.getD_eq_getElem?_getD,List.getElem?_range hi]
variable (h:cC g p)(hI:kB g=true)
include h hI
theorem zZ (h0:0<g.es.length)(hl:g.es.length≤60):aM (ur g p)=true:=by
 have he:=JS h hI
 have hn:=Gn h hI h0
 unfold aM
 have hn:(ur g p).n=(cN g p:Int)+1:=rfl
 rw [qt,hn]
 simp only [Bool.and_eq_true,decide_eq_true_eq,Bool.not_eq_true',List.any_eq_false]
 refine⟨⟨⟨by omega,by omega⟩,by omega⟩,fun e hm=> ?_⟩
 obtain⟨i,hi,rfl⟩:=List.mem_map.1 hm
 have hi:=List.mem_range.1 hi
 have h1:=zW h hI (e:=(i:Int))(by omega)
 have h2:=zV h hI (e:=(i:Int))(by omega)
 simp only [nH,ta,hn,Bool.or_eq_true,decide_eq_true_eq]
 omega
end
end Go.Ab
end
section
namespace Go.Ab
open Go.Proofs
attribute [local congr] ACall.congr
set_option maxRecDepth 10000
set_option maxHeartbeats 16000000
theorem Bi (g:Gr)(hl:g.es.length≤9223372036854775807)(p:Pl)(hp:pO p)(b:Bool)(hr:b=true↔(cr g).1=0∧bF g p):Spec Tryz.prog 47 (Args [eG g,ePl p]) [](eB (decide ((bP b g p).2.1=0))) []:=by
 have hO:=xB g hl p hp b hr
 generalize bP b g p=R at hO
 (refine Spec.intro (C:=T.cfg [] [])(rs:= [.t 4])(T.au _ _)Tryz.func47 rfl rfl Tryz.ntmps47 Tryz.results47 (by simp [AObj.isNest])(by simp [AObj.isNest])(by kernel_rfl) ?_;intro X hX hP hC aI aJ vals hA;refine⟨_,by simp,hA, ?_⟩;have af:X.P.follows .mixedOrders=true:=(by rw [hP];exact T.mixed);clear aI aJ)
 repeat' (first|fail|((first|((with_reducible (first|apply oA|apply oB));exact rfl;intro K hK)|(refine hK _ ?_;clear hK K)|((with_reducible (first|apply oG|apply oH));iterate 3 exact rfl)|((with_reducible apply oI);(iterate 2 exact rfl);intro K hK)|(with_reducible (first|apply wI|apply wJ|apply wK)));try simp only [go_sem,simprocAttr])|fail|(with_reducible (first|apply oC|apply oJ|exact oK|apply wA|apply wB|apply wC hX hC|apply wD hX hC|apply wE hX hC af|apply wF hX hC af|apply wG|apply wH|apply And.intro))|((with_reducible refine oD ?_ ?_);first|fail|kernel_rfl)|((with_reducible (first|apply oE|apply oF));(iterate 3 exact rfl);all_goals (intro h;first|(exact absurd h (by decide))|((try simp only [go_sem,simprocAttr] at h);(try with_reducible intro K hK);simp only [go_sem,simprocAttr])))|((first|((with_reducible apply wL);exact rfl)|((with_reducible apply wM);exact rfl));all_goals (try ((with_reducible intro h);first|(exact absurd h (by decide))|(try simp only [go_sem,simprocAttr] at h))))|omega|((first|first|refine aa hX hC hP (hO)rfl rfl rfl (by simp only [go_sem,simprocAttr])rfl ?_);try simp only [go_sem,simprocAttr])|(intro h))
end Go.Ab
end
section
namespace Go.Ab
open Go.Proofs
attribute [local congr] ACall.congr
set_option maxRecDepth 20000
set_option maxHeartbeats 8000000
theorem pS (g:Gr)(hl:g.es.length≤1000)(p:Pl)(hp:pO p)(b:Bool)(hr:b=true↔(cr g).1=0∧bF g p):
  Spec Tryz.prog 17 (Args [eG g,ePl p]) [](.tup [fM (DR b g p).1,eN (DR b g p).2]) []:=by
 have hO:=me g hl p hp b hr
 have Gl:=sH g hl
 by_cases h0:(bP b g p).2.1=0
 rotate_left
 ·have hK:DR b g p=(qp,1):=if_neg fun h=>h0 h.1.1
  have hb0:decide ((bP b g p).2.1=0)=false:=decide_eq_false h0
  rw [hK]
  (refine Spec.intro (C:=T.cfg [] [])(rs:= [.c 4 32, .t 5])(T.au _ _)Tryz.func17 rfl rfl Tryz.ntmps17 Tryz.results17 (by simp [AObj.isNest])(by simp [AObj.isNest])(by kernel_rfl) ?_;intro X hX hP hC aI aJ vals hA;refine⟨_,by simp,hA, ?_⟩;have af:X.P.follows .mixedOrders=true:=(by rw [hP];exact T.mixed);clear aI aJ)
  repeat' (first|fail|((first|((with_reducible (first|apply oA|apply oB));exact rfl;intro K hK)|(refine hK _ ?_;clear hK K)|((with_reducible (first|apply oG|apply oH));iterate 3 exact rfl)|((with_reducible apply oI);(iterate 2 exact rfl);intro K hK)|(with_reducible (first|apply wI|apply wJ|apply wK)));try simp only [go_sem,simprocAttr,hb0,fM,qp,List.map_nil])|fail|(with_reducible (first|apply oC|apply oJ|exact oK|apply wA|apply wB|apply wC hX hC|apply wD hX hC|apply wE hX hC af|apply wF hX hC af|apply wG|apply wH|apply And.intro))|((with_reducible refine oD ?_ ?_);first|fail|kernel_rfl)|((with_reducible (first|apply oE|apply oF));(iterate 3 exact rfl);all_goals (intro h;first|(exact absurd h (by decide))|((try simp only [go_sem,simprocAttr,hb0,fM,qp,List.map_nil] at h);(try with_reducible intro K hK);simp only [go_sem,simprocAttr,hb0,fM,qp,List.map_nil])))|((first|((with_reducible apply wL);exact rfl)|((with_reducible apply wM);exact rfl));all_goals (try ((with_reducible intro h);first|(exact absurd h (by decide))|(try simp only [go_sem,simprocAttr,hb0,fM,qp,List.map_nil] at h))))|omega|((first|first|refine aa hX hC hP (hO)rfl rfl rfl (by simp only [go_sem,simprocAttr,hb0,fM,qp,List.map_nil])rfl ?_);try simp only [go_sem,simprocAttr,hb0,fM,qp,List.map_nil])|(intro h))
 obtain⟨hrun,hR⟩:=tZ hr h0
 cases hI:kB g with
 |false=>
  have hK:DR b g p=(qp,1):=if_neg fun h=>by rw [hI] at h;cases h.1.2
  rw [hR] at hO
  simp only at hO
  rw [hI] at Gl
  rw [hK]
  (refine Spec.intro (C:=T.cfg [] [])(rs:= [.c 4 32, .t 5])(T.au _ _)Tryz.func17 rfl rfl Tryz.ntmps17 Tryz.results17 (by simp [AObj.isNest])(by simp [AObj.isNest])(by kernel_rfl) ?_;intro X hX hP hC aI aJ vals hA;refine⟨_,by simp,hA, ?_⟩;have af:X.P.follows .mixedOrders=true:=(by rw [hP];exact T.mixed);clear aI aJ)
  repeat' (first|fail|((first|((with_reducible (first|apply oA|apply oB));exact rfl;intro K hK)|(refine hK _ ?_;clear hK K)|((with_reducible (first|apply oG|apply oH));iterate 3 exact rfl)|((with_reducible apply oI);(iterate 2 exact rfl);intro K hK)|(with_reducible (first|apply wI|apply wJ|apply wK)));try simp only [go_sem,simprocAttr,fM,qp,List.map_nil])|fail|(with_reducible (first|apply oC|apply oJ|exact oK|apply wA|apply wB|apply wC hX hC|apply wD hX hC|apply wE hX hC af|apply wF hX hC af|apply wG|apply wH|apply And.intro))|((with_reducible refine oD ?_ ?_);first|fail|kernel_rfl)|((with_reducible (first|apply oE|apply oF));(iterate 3 exact rfl);all_goals (intro h;first|(exact absurd h (by decide))|((try simp only [go_sem,simprocAttr,fM,qp,List.map_nil] at h);(try with_reducible intro K hK);simp only [go_sem,simprocAttr,fM,qp,List.map_nil])))|((first|((with_reducible apply wL);exact rfl)|((with_reducible apply wM);exact rfl));all_goals (try ((with_reducible intro h);first|(exact absurd h (by decide))|(try simp only [go_sem,simprocAttr,fM,qp,List.map_nil] at h))))|omega|((first|first|refine aa hX hC hP (hO)rfl rfl rfl (by simp only [go_sem,simprocAttr,fM,qp,List.map_nil])rfl ?_|refine aa hX hC hP (Gl)rfl rfl rfl (by simp only [go_sem,simprocAttr,fM,qp,List.map_nil])rfl ?_);try simp only [go_sem,simprocAttr,fM,qp,List.map_nil])|(intro h))
 |true=>
  by_cases hm:0<g.es.length
  ·have hK:DR b g p=(ER g p,0):=if_pos⟨⟨h0,hI⟩,hm⟩
   rw [hK]
   exact Bd g p hp hrun hI hm b hr
  ·have hK:DR b g p=(qp,1):=if_neg fun h=>hm h.2
   have ak:decide ((g.es.length:Int)=0)=true:=decide_eq_true (by omega)
   rw [hR] at hO
   simp only at hO
   rw [hI] at Gl
   rw [hK]
   (refine Spec.intro (C:=T.cfg [] [])(rs:= [.c 4 32, .t 5])(T.au _ _)Tryz.func17 rfl rfl Tryz.ntmps17 Tryz.results17 (by simp [AObj.isNest])(by simp [AObj.isNest])(by kernel_rfl) ?_;intro X hX hP hC aI aJ vals hA;refine⟨_,by simp,hA, ?_⟩;have af:X.P.follows .mixedOrders=true:=(by rw [hP];exact T.mixed);clear aI aJ)
   repeat' (first|fail|((first|((with_reducible (first|apply oA|apply oB));exact rfl;intro K hK)|(refine hK _ ?_;clear hK K)|((with_reducible (first|apply oG|apply oH));iterate 3 exact rfl)|((with_reducible apply oI);(iterate 2 exact rfl);intro K hK)|(with_reducible (first|apply wI|apply wJ|apply wK)));try simp only [go_sem,simprocAttr,ak,fM,qp,List.map_nil])|fail|(with_reducible (first|apply oC|apply oJ|exact oK|apply wA|apply wB|apply wC hX hC|apply wD hX hC|apply wE hX hC af|apply wF hX hC af|apply wG|apply wH|apply And.intro))|((with_reducible refine oD ?_ ?_);first|fail|kernel_rfl)|((with_reducible (first|apply oE|apply oF));(iterate 3 exact rfl);all_goals (intro h;first|(exact absurd h (by decide))|((try simp only [go_sem,simprocAttr,ak,fM,qp,List.map_nil] at h);(try with_reducible intro K hK);simp only [go_sem,simprocAttr,ak,fM,qp,List.map_nil])))|((first|((with_reducible apply wL);exact rfl)|((with_reducible apply wM);exact rfl));all_goals (try ((with_reducible intro h);first|(exact absurd h (by decide))|(try simp only [go_sem,simprocAttr,ak,fM,qp,List.map_nil] at h))))|omega|((first|first|refine aa hX hC hP (hO)rfl rfl rfl (by simp only [go_sem,simprocAttr,ak,fM,qp,List.map_nil])rfl ?_|refine aa hX hC hP (Gl)rfl rfl rfl (by simp only [go_sem,simprocAttr,ak,fM,qp,List.map_nil])rfl ?_);try simp only [go_sem,simprocAttr,ak,fM,qp,List.map_nil])|(intro h))
end Go.Ab
end
section
namespace Go.Ab
open Go.Proofs
attribute [local congr] ACall.congr
set_option maxRecDepth 20000
set_option maxHeartbeats 8000000
def Dz (f:Fc)(k:Nat):List Edge:=(List.range k).map fun i:Nat=>(f.L.getD i 0,f.R.getD i 0)
theorem EW {f:Fc} {k:Nat} :(Dz f k).length=k:=by simp [Dz]
theorem DA {f:Fc} {k:Nat} :(Dz f (k+1)).map rE=(Dz f k).map rE++ [rE (f.L.getD k 0,f.R.getD k 0)]:=by simp [Dz,List.range_succ]
theorem xK (f:Fc)(h1:f.L.length≤100000)(h2:f.R.length=f.L.length):Spec Tryz.prog 23 (Args [fM f]) [](eG⟨f.lo.length,Dz f f.L.length⟩) []:=by
 have hmin:min (f.L.length:Int)(f.R.length:Int)=f.L.length:=by rw [h2];simp
 (refine Spec.intro (C:=T.cfg [] [])(rs:= [.c 2 24])(T.au _ _)Tryz.func23 rfl rfl Tryz.ntmps23 Tryz.results23 (by simp [AObj.isNest])(by simp [AObj.isNest])(by kernel_rfl) ?_;intro X hX hP hC aI aJ vals hA;refine⟨_,by simp,hA, ?_⟩;have af:X.P.follows .mixedOrders=true:=(by rw [hP];exact T.mixed);clear aI aJ)
 repeat' (first|fail|((first|((with_reducible (first|apply oA|apply oB));exact rfl;intro K hK)|(refine hK _ ?_;clear hK K)|((with_reducible (first|apply oG|apply oH));iterate 3 exact rfl)|((with_reducible apply oI);(iterate 2 exact rfl);intro K hK)|(with_reducible (first|apply wI|apply wJ|apply wK)));try simp only [go_sem,simprocAttr,fM,hmin])|(show dF _ (.seq (.region 2 _ _)_)_ _;(refine wX hX 3 1 200 (.tip 58 2 [])rfl rfl rfl (by simp only [go_sem,simprocAttr,fM,hmin])(by decide)(by simp [go_sem,simprocAttr,fM,hmin])⟨58,2,by decide, .inr rfl⟩ ?_;simp only [LA.app,ASt.put,ASt.kill,subT,rmk,putM,rml,kl,AV.sub,AV.subs,AObj.sub,List.set_cons_zero,List.set_cons_succ,go_sem,simprocAttr,fM,hmin]))|(with_reducible (first|apply oC|apply oJ|exact oK|apply wA|apply wB|apply wC hX hC|apply wD hX hC|apply wE hX hC af|apply wF hX hC af|apply wG|apply wH|apply And.intro))|((with_reducible refine oD ?_ ?_);first|fail|kernel_rfl)|((with_reducible (first|apply oE|apply oF));(iterate 3 exact rfl);all_goals (intro h;first|(exact absurd h (by decide))|((try simp only [go_sem,simprocAttr,fM,hmin] at h);(try with_reducible intro K hK);simp only [go_sem,simprocAttr,fM,hmin])))|((first|((with_reducible apply wL);exact rfl)|((with_reducible apply wM);exact rfl));all_goals (try ((with_reducible intro h);first|(exact absurd h (by decide))|(try simp only [go_sem,simprocAttr,fM,hmin] at h))))|omega|((first|fail);try simp only [go_sem,simprocAttr,fM,hmin])|(intro h))
 refine an (fun k:Nat=>k≤f.L.length)(fun k=>⟨[(1, .ptr 1 0),(2, .ptr 2 0),(3, .ptr 3 0),(15,eN f.L.length),(16,eN k)], [(1, .box [.d (sI f.L), .d (sI f.R), .d (sI f.lo), .d (sI f.hi)]),(2, .box [eN 0, .nil 58]),(3, .box [eN f.lo.length, .ref 200]),(200, .tip 58 2 ((Dz f k).map rE))]⟩)(fun k=>f.L.length - k)0 (by omega) ?_ ?_
 ·refine Le.of ?_ ?_<;>simp [go_sem,simprocAttr,fM,hmin,Dz]
 rintro k hk
 rcases Nat.lt_or_ge k f.L.length with hlt|hge
 ·have hb:decide ((k:Int)<(f.L.length:Int))=true:=decide_eq_true (by omega)
  have dr:=DA (f:=f)(k:=k)
  have Br:=EW (f:=f)(k:=k)
  generalize Dz f k=G at dr Br
  repeat' (first|fail|((first|((with_reducible (first|apply oA|apply oB));exact rfl;intro K hK)|(refine hK _ ?_;clear hK K)|((with_reducible (first|apply oG|apply oH));iterate 3 exact rfl)|((with_reducible apply oI);(iterate 2 exact rfl);intro K hK)|(with_reducible (first|apply wI|apply wJ|apply wK)));try simp only [go_sem,simprocAttr,hb,Br])|(show dF _ (.region 6 _ _)_ _;(refine iG hX 3 1 33 200 rfl rfl rfl (by first|exact .inl rfl|exact .inr rfl)(by decide)(by decide) ?_;simp only [LA.app,ASt.put,ASt.kill,subT,rmk,putM,rml,kl,AV.sub,AV.subs,AObj.sub,List.set_cons_zero,List.set_cons_succ,go_sem,simprocAttr,hb,Br]))|(with_reducible (first|apply oC|apply oJ|exact oK|apply wA|apply wB|apply wC hX hC|apply wD hX hC|apply wE hX hC af|apply wF hX hC af|apply wG|apply wH|apply And.intro))|((with_reducible refine oD ?_ ?_);first|fail|kernel_rfl)|((with_reducible (first|apply oE|apply oF));(iterate 3 exact rfl);all_goals (intro h;first|(exact absurd h (by decide))|((try simp only [go_sem,simprocAttr,hb,Br] at h);(try with_reducible intro K hK);simp only [go_sem,simprocAttr,hb,Br])))|((first|((with_reducible apply wL);exact rfl)|((with_reducible apply wM);exact rfl));all_goals (try ((with_reducible intro h);first|(exact absurd h (by decide))|(try simp only [go_sem,simprocAttr,hb,Br] at h))))|omega|((first|fail);try simp only [go_sem,simprocAttr,hb,Br])|(intro h))
  refine⟨k+1,by omega, ?_,by omega⟩
  rw [dr]
  refine Le.of ?_ ?_<;>simp [go_sem,simprocAttr,hb,Br,rE]
 ·have hb:decide ((k:Int)<(f.L.length:Int))=false:=decide_eq_false (by omega)
  obtain rfl:k=f.L.length:=by omega
  repeat' (first|fail|((first|((with_reducible (first|apply oA|apply oB));exact rfl;intro K hK)|(refine hK _ ?_;clear hK K)|((with_reducible (first|apply oG|apply oH));iterate 3 exact rfl)|((with_reducible apply oI);(iterate 2 exact rfl);intro K hK)|(with_reducible (first|apply wI|apply wJ|apply wK)));try simp only [go_sem,simprocAttr,hb])|fail|(with_reducible (first|apply oC|apply oJ|exact oK|apply wA|apply wB|apply wC hX hC|apply wD hX hC|apply wE hX hC af|apply wF hX hC af|apply wG|apply wH|apply And.intro))|((with_reducible refine oD ?_ ?_);first|fail|kernel_rfl)|((with_reducible (first|apply oE|apply oF));(iterate 3 exact rfl);all_goals (intro h;first|(exact absurd h (by decide))|((try simp only [go_sem,simprocAttr,hb] at h);(try with_reducible intro K hK);simp only [go_sem,simprocAttr,hb])))|((first|((with_reducible apply wL);exact rfl)|((with_reducible apply wM);exact rfl));all_goals (try ((with_reducible intro h);first|(exact absurd h (by decide))|(try simp only [go_sem,simprocAttr,hb] at h))))|omega|((first|fail);try simp only [go_sem,simprocAttr,hb])|(intro h))
def xL (b:Bool)(g:Gr)(p:Pl):Bool:= !pY g p&&kB g&&decide ((bP b g p).2.1=0)&&decide (0<(g.es.length:Int))&&decide ((g.es.length:Int)≤60)
theorem vF (g:Gr)(hl:g.es.length≤9223372036854775807)(p:Pl)(hp:zC p)(b:Bool)(hr:b=true↔(cr g).1=0∧bF g p):Spec Tryz.prog 16 (Args [eG g,ePl p]) [](eB (xL b g p)) []:=by
 have hG:=vt g p hl hp
 cases hB:pY g p with
 |true=>
  rw [hB] at hG
  have ha:xL b g p=false:=by unfold xL;rw [hB];rfl
  rw [ha]
  (refine Spec.intro (C:=T.cfg [] [])(rs:= [.t 4])(T.au _ _)Tryz.func16 rfl rfl Tryz.ntmps16 Tryz.results16 (by simp [AObj.isNest])(by simp [AObj.isNest])(by kernel_rfl) ?_;intro X hX hP hC aI aJ vals hA;refine⟨_,by simp,hA, ?_⟩;have af:X.P.follows .mixedOrders=true:=(by rw [hP];exact T.mixed);clear aI aJ)
  repeat' (first|fail|((first|((with_reducible (first|apply oA|apply oB));exact rfl;intro K hK)|(refine hK _ ?_;clear hK K)|((with_reducible (first|apply oG|apply oH));iterate 3 exact rfl)|((with_reducible apply oI);(iterate 2 exact rfl);intro K hK)|(with_reducible (first|apply wI|apply wJ|apply wK)));try simp only [go_sem,simprocAttr])|fail|(with_reducible (first|apply oC|apply oJ|exact oK|apply wA|apply wB|apply wC hX hC|apply wD hX hC|apply wE hX hC af|apply wF hX hC af|apply wG|apply wH|apply And.intro))|((with_reducible refine oD ?_ ?_);first|fail|kernel_rfl)|((with_reducible (first|apply oE|apply oF));(iterate 3 exact rfl);all_goals (intro h;first|(exact absurd h (by decide))|((try simp only [go_sem,simprocAttr] at h);(try with_reducible intro K hK);simp only [go_sem,simprocAttr])))|((first|((with_reducible apply wL);exact rfl)|((with_reducible apply wM);exact rfl));all_goals (try ((with_reducible intro h);first|(exact absurd h (by decide))|(try simp only [go_sem,simprocAttr] at h))))|omega|((first|first|refine aa hX hC hP (hG)rfl rfl rfl (by simp only [go_sem,simprocAttr])rfl ?_);try simp only [go_sem,simprocAttr])|(intro h))
 |false=>
  rw [hB] at hG
  have hI:=yF g (by have:=(zB hB).1;omega)
  have A9:=Bi g hl p (xC hB)b hr
  have ha:xL b g p=(kB g&&decide ((bP b g p).2.1=0)&&decide (0<(g.es.length:Int))&&decide ((g.es.length:Int)≤60)):=by unfold xL;rw [hB];rfl
  rw [ha]
  cases hi:kB g with
  |false=>
   rw [hi] at hI
   (refine Spec.intro (C:=T.cfg [] [])(rs:= [.t 4])(T.au _ _)Tryz.func16 rfl rfl Tryz.ntmps16 Tryz.results16 (by simp [AObj.isNest])(by simp [AObj.isNest])(by kernel_rfl) ?_;intro X hX hP hC aI aJ vals hA;refine⟨_,by simp,hA, ?_⟩;have af:X.P.follows .mixedOrders=true:=(by rw [hP];exact T.mixed);clear aI aJ)
   repeat' (first|fail|((first|((with_reducible (first|apply oA|apply oB));exact rfl;intro K hK)|(refine hK _ ?_;clear hK K)|((with_reducible (first|apply oG|apply oH));iterate 3 exact rfl)|((with_reducible apply oI);(iterate 2 exact rfl);intro K hK)|(with_reducible (first|apply wI|apply wJ|apply wK)));try simp only [go_sem,simprocAttr,Bool.false_and])|fail|(with_reducible (first|apply oC|apply oJ|exact oK|apply wA|apply wB|apply wC hX hC|apply wD hX hC|apply wE hX hC af|apply wF hX hC af|apply wG|apply wH|apply And.intro))|((with_reducible refine oD ?_ ?_);first|fail|kernel_rfl)|((with_reducible (first|apply oE|apply oF));(iterate 3 exact rfl);all_goals (intro h;first|(exact absurd h (by decide))|((try simp only [go_sem,simprocAttr,Bool.false_and] at h);(try with_reducible intro K hK);simp only [go_sem,simprocAttr,Bool.false_and])))|((first|((with_reducible apply wL);exact rfl)|((with_reducible apply wM);exact rfl));all_goals (try ((with_reducible intro h);first|(exact absurd h (by decide))|(try simp only [go_sem,simprocAttr,Bool.false_and] at h))))|omega|((first|first|refine aa hX hC hP (hG)rfl rfl rfl (by simp only [go_sem,simprocAttr,Bool.false_and])rfl ?_|refine aa hX hC hP (hI)rfl rfl rfl (by simp only [go_sem,simprocAttr,Bool.false_and])rfl ?_);try simp only [go_sem,simprocAttr,Bool.false_and])|(intro h))
  |true=>
   rw [hi] at hI
   cases hd:decide ((bP b g p).2.1=0)with
   |false=>
    rw [hd] at A9
    (refine Spec.intro (C:=T.cfg [] [])(rs:= [.t 4])(T.au _ _)Tryz.func16 rfl rfl Tryz.ntmps16 Tryz.results16 (by simp [AObj.isNest])(by simp [AObj.isNest])(by kernel_rfl) ?_;intro X hX hP hC aI aJ vals hA;refine⟨_,by simp,hA, ?_⟩;have af:X.P.follows .mixedOrders=true:=(by rw [hP];exact T.mixed);clear aI aJ)
    repeat' (first|fail|((first|((with_reducible (first|apply oA|apply oB));exact rfl;intro K hK)|(refine hK _ ?_;clear hK K)|((with_reducible (first|apply oG|apply oH));iterate 3 exact rfl)|((with_reducible apply oI);(iterate 2 exact rfl);intro K hK)|(with_reducible (first|apply wI|apply wJ|apply wK)));try simp only [go_sem,simprocAttr,Bool.false_and,Bool.true_and])|fail|(with_reducible (first|apply oC|apply oJ|exact oK|apply wA|apply wB|apply wC hX hC|apply wD hX hC|apply wE hX hC af|apply wF hX hC af|apply wG|apply wH|apply And.intro))|((with_reducible refine oD ?_ ?_);first|fail|kernel_rfl)|((with_reducible (first|apply oE|apply oF));(iterate 3 exact rfl);all_goals (intro h;first|(exact absurd h (by decide))|((try simp only [go_sem,simprocAttr,Bool.false_and,Bool.true_and] at h);(try with_reducible intro K hK);simp only [go_sem,simprocAttr,Bool.false_and,Bool.true_and])))|((first|((with_reducible apply wL);exact rfl)|((with_reducible apply wM);exact rfl));all_goals (try ((with_reducible intro h);first|(exact absurd h (by decide))|(try simp only [go_sem,simprocAttr,Bool.false_and,Bool.true_and] at h))))|omega|((first|first|refine aa hX hC hP (hG)rfl rfl rfl (by simp only [go_sem,simprocAttr,Bool.false_and,Bool.true_and])rfl ?_|refine aa hX hC hP (hI)rfl rfl rfl (by simp only [go_sem,simprocAttr,Bool.false_and,Bool.true_and])rfl ?_|refine aa hX hC hP (A9)rfl rfl rfl (by simp only [go_sem,simprocAttr,Bool.false_and,Bool.true_and])rfl ?_);try simp only [go_sem,simprocAttr,Bool.false_and,Bool.true_and])|(intro h))
   |true=>
    rw [hd] at A9
    (refine Spec.intro (C:=T.cfg [] [])(rs:= [.t 4])(T.au _ _)Tryz.func16 rfl rfl Tryz.ntmps16 Tryz.results16 (by simp [AObj.isNest])(by simp [AObj.isNest])(by kernel_rfl) ?_;intro X hX hP hC aI aJ vals hA;refine⟨_,by simp,hA, ?_⟩;have af:X.P.follows .mixedOrders=true:=(by rw [hP];exact T.mixed);clear aI aJ)
    repeat' (first|fail|((first|((with_reducible (first|apply oA|apply oB));exact rfl;intro K hK)|(refine hK _ ?_;clear hK K)|((with_reducible (first|apply oG|apply oH));iterate 3 exact rfl)|((with_reducible apply oI);(iterate 2 exact rfl);intro K hK)|(with_reducible (first|apply wI|apply wJ|apply wK)));try simp only [go_sem,simprocAttr,Bool.false_and,Bool.true_and])|fail|(with_reducible (first|apply oC|apply oJ|exact oK|apply wA|apply wB|apply wC hX hC|apply wD hX hC|apply wE hX hC af|apply wF hX hC af|apply wG|apply wH|apply And.intro))|((with_reducible refine oD ?_ ?_);first|fail|kernel_rfl)|((with_reducible (first|apply oE|apply oF));(iterate 3 exact rfl);all_goals (intro h;first|(exact absurd h (by decide))|((try simp only [go_sem,simprocAttr,Bool.false_and,Bool.true_and] at h);(try with_reducible intro K hK);simp only [go_sem,simprocAttr,Bool.false_and,Bool.true_and])))|((first|((with_reducible apply wL);exact rfl)|((with_reducible apply wM);exact rfl));all_goals (try ((with_reducible intro h);first|(exact absurd h (by decide))|(try simp only [go_sem,simprocAttr,Bool.false_and,Bool.true_and] at h))))|omega|((first|first|refine aa hX hC hP (hG)rfl rfl rfl (by simp only [go_sem,simprocAttr,Bool.false_and,Bool.true_and])rfl ?_|refine aa hX hC hP (hI)rfl rfl rfl (by simp only [go_sem,simprocAttr,Bool.false_and,Bool.true_and])rfl ?_|refine aa hX hC hP (A9)rfl rfl rfl (by simp only [go_sem,simprocAttr,Bool.false_and,Bool.true_and])rfl ?_);try simp only [go_sem,simprocAttr,Bool.false_and,Bool.true_and])|(intro h))
    all_goals (simp [*];omega)
theorem Gs {b:Bool} {g:Gr} {p:Pl} (hr:b=true↔(cr g).1=0∧bF g p)(h:xL b g p=true):pY g p=false∧kB g=true∧cC g p∧0<g.es.length∧g.es.length≤60:=by
 simp only [xL,Bool.and_eq_true,Bool.not_eq_true',decide_eq_true_eq] at h
 exact⟨h.1.1.1.1,h.1.1.1.2,(tZ hr h.1.1.2).1,by omega,by omega⟩
theorem Gt {b:Bool} {g:Gr} {p:Pl} (hr:b=true↔(cr g).1=0∧bF g p)(hrun:cC g p)(hI:kB g=true)(h0:0<g.es.length):DR b g p=(⟨arr (Lf g p)g.es.length,arr (Rf g p)g.es.length,ES g p,GP g p⟩,0):=by
 have:DR b g p=(ER g p,0):=if_pos⟨⟨by rw [sW hr hrun],hI⟩,h0⟩
 rw [this,Gm hrun hI]
theorem EX {g:Gr} {p:Pl} :(⟨((ES g p).length:Nat),Dz⟨arr (Lf g p)g.es.length,arr (Rf g p)g.es.length,ES g p,GP g p⟩(arr (Lf g p)g.es.length).length⟩:Gr)=ur g p:=by
 unfold ur Dz
 rw [zT,c9]
 congr 1
 refine List.map_congr_left fun i hi=> ?_
 have hi:=List.mem_range.1 hi
 rw [o6 hi,o6 hi]
def Fl:Gr:=⟨4, [(0,1),(1,3),(0,2),(2,3)]⟩
def Gu:Pl:=⟨[0,1,2,3], [[0,2], [1], [3], []]⟩
theorem ML:(true=true)↔(cr Fl).1=0∧bF Fl Gu:=⟨fun _=>⟨by decide,⟨rfl,by decide,by decide⟩⟩,fun _=>rfl⟩
theorem MM:DR true Fl Gu=(⟨[0,0,1,1], [1,1,2,2], [0,0,0], [3,3,3]⟩,0):=by
 have:DR true Fl Gu=(ER Fl Gu,0):=if_pos⟨⟨rfl,by decide⟩,by decide⟩
 rw [this]
 rfl
theorem mo:Spec Tryz.prog 15 (Args []) [](eB true) []:=by
 have Ge:=pS Fl (by decide)Gu⟨by decide,by decide,by decide⟩true ML
 rw [MM] at Ge
 simp only at Ge
 have e1:Fl.es.map rE= [[.sc (.int .i64 0), .sc (.int .i64 1)], [.sc (.int .i64 1), .sc (.int .i64 3)], [.sc (.int .i64 0), .sc (.int .i64 2)], [.sc (.int .i64 2), .sc (.int .i64 3)]]:=rfl
 have e2:Gu.ord.map rI= [[.sc (.int .i64 0)], [.sc (.int .i64 1)], [.sc (.int .i64 2)], [.sc (.int .i64 3)]]:=rfl
 have e3:vI Gu.outs= [[.sl 1 [[.sc (.int .i64 0)], [.sc (.int .i64 2)]]], [.sl 1 [[.sc (.int .i64 1)]]], [.sl 1 [[.sc (.int .i64 3)]]], [.sl 1 []]]:=rfl
 have e4:Fl.n=4:=rfl
 (refine Spec.intro (C:=T.cfg [] [])(rs:= [.t 0])(T.au _ _)Tryz.func15 rfl rfl Tryz.ntmps15 Tryz.results15 (by simp [AObj.isNest])(by simp [AObj.isNest])(by kernel_rfl) ?_;intro X hX hP hC aI aJ vals hA;refine⟨_,by simp,hA, ?_⟩;have af:X.P.follows .mixedOrders=true:=(by rw [hP];exact T.mixed);clear aI aJ)
 repeat' (first|fail|((first|((with_reducible (first|apply oA|apply oB));exact rfl;intro K hK)|(refine hK _ ?_;clear hK K)|((with_reducible (first|apply oG|apply oH));iterate 3 exact rfl)|((with_reducible apply oI);(iterate 2 exact rfl);intro K hK)|(with_reducible (first|apply wI|apply wJ|apply wK)));try simp only [go_sem,simprocAttr,fM,e1,e2,e3,e4,List.map_cons,List.map_nil,rI,decide_true])|fail|(with_reducible (first|apply oC|apply oJ|exact oK|apply wA|apply wB|apply wC hX hC|apply wD hX hC|apply wE hX hC af|apply wF hX hC af|apply wG|apply wH|apply And.intro))|((with_reducible refine oD ?_ ?_);first|fail|kernel_rfl)|((with_reducible (first|apply oE|apply oF));(iterate 3 exact rfl);all_goals (intro h;first|(exact absurd h (by decide))|((try simp only [go_sem,simprocAttr,fM,e1,e2,e3,e4,List.map_cons,List.map_nil,rI,decide_true] at h);(try with_reducible intro K hK);simp only [go_sem,simprocAttr,fM,e1,e2,e3,e4,List.map_cons,List.map_nil,rI,decide_true])))|((first|((with_reducible apply wL);exact rfl)|((with_reducible apply wM);exact rfl));all_goals (try ((with_reducible intro h);first|(exact absurd h (by decide))|(try simp only [go_sem,simprocAttr,fM,e1,e2,e3,e4,List.map_cons,List.map_nil,rI,decide_true] at h))))|omega|((first|first|(refine bH hX hC hP (Ge)rfl rfl rfl ?_ ?_ rfl ?_;iterate 2 (focus (simp only [go_sem,simprocAttr,fM,e1,e2,e3,e4,List.map_cons,List.map_nil,rI,decide_true];done)))|(refine bH hX hC hP (l8 [0,0,1,1] [0,0,1,1](by decide))rfl rfl rfl ?_ ?_ rfl ?_;iterate 2 (focus (simp only [go_sem,simprocAttr,fM,e1,e2,e3,e4,List.map_cons,List.map_nil,rI,decide_true];done)))|(refine bH hX hC hP (l8 [1,1,2,2] [1,1,2,2](by decide))rfl rfl rfl ?_ ?_ rfl ?_;iterate 2 (focus (simp only [go_sem,simprocAttr,fM,e1,e2,e3,e4,List.map_cons,List.map_nil,rI,decide_true];done))));try simp only [go_sem,simprocAttr,fM,e1,e2,e3,e4,List.map_cons,List.map_nil,rI,decide_true])|(intro h))
end Go.Ab
end
section
namespace Go.Ab
open Go.Proofs
attribute [local congr] ACall.congr
set_option maxRecDepth 20000
set_option maxHeartbeats 16000000
def vG (a b c d:Bool)(j:Nat):Nat:=(([a,b,c,d].take j).filter id).length
theorem qu {a b c d:Bool} {j:Nat} :vG a b c d j≤4:=by
 refine Nat.le_trans (List.length_filter_le ..) ?_
 rw [List.length_take]
 exact Nat.min_le_right ..
theorem DB {g:Gr} {p:Pl} (h:cC g p)(hI:kB g=true)(h0:0<g.es.length)(hl:g.es.length≤60) {i k:Nat} (hi:i<g.es.length)(hk:k<g.es.length)(hne:i≠k):
  vG (kz ((tg g).getD (hd g i).toNat 0)(tl g k))(kz ((tg g).getD (hd g k).toNat 0)(tl g i))(kz ((tg (ur g p)).getD (Rf g p i).toNat 0)(Lf g p k))(kz ((tg (ur g p)).getD (Rf g p k).toNat 0)(Lf g p i))4=1:=by
 have hok:=zI h hI
 have F:=lg h hI
 have hm:=aF h.1
 have hm2:=zZ h hI h0 hl
 have hn:(ur g p).n=(cN g p:Int)+1:=rfl
 have ei:(cy g p).E (i:Int):=⟨by omega,by show (i:Int)<(g.es.length:Int);omega⟩
 have ek:(cy g p).E (k:Int):=⟨by omega,by show (k:Int)<(g.es.length:Int);omega⟩
 have ri:=zV h hI (e:=(i:Int))(by omega)
 have rk:=zV h hI (e:=(k:Int))(by omega)
 have li:=zW h hI (e:=(i:Int))(by omega)
 have lk:=zW h hI (e:=(k:Int))(by omega)
 have e1:=qs (P:=cy g p)(A:=(cy g p).tl)(B:=(cy g p).hd)hm rfl (fun _ _=>rfl)(fun _ _=>rfl)(bX hm hi)(bK hm hk)
 have e2:=qs (P:=cy g p)(A:=(cy g p).tl)(B:=(cy g p).hd)hm rfl (fun _ _=>rfl)(fun _ _=>rfl)(bX hm hk)(bK hm hi)
 have e3:=qs (P:=cy g p)(A:=Lf g p)(B:=Rf g p)hm2 qt (fun j hj=>Dx hj)(fun j hj=>Dy hj)(x:=Rf g p i)(y:=Lf g p k)(by omega)(by omega)
 have e4:=qs (P:=cy g p)(A:=Lf g p)(B:=Rf g p)hm2 qt (fun j hj=>Dx hj)(fun j hj=>Dy hj)(x:=Rf g p k)(y:=Lf g p i)(by omega)(by omega)
 rw [← Gq] at e1 e2
 have i1:(cy g p).hd (i:Int)=hd g i:=rfl
 have i2:(cy g p).tl (i:Int)=tl g i:=rfl
 have k1:(cy g p).hd (k:Int)=hd g k:=rfl
 have k2:(cy g p).tl (k:Int)=tl g k:=rfl
 have Py:¬((cy g p).lU (hd g i)(tl g k)∧(cy g p).lU (hd g k)(tl g i)):=fun⟨a,b⟩=>vP hok F ei ek a b
 have Pz:¬((cy g p).Lp (Lf g p)(Rf g p)(Rf g p i)(Lf g p k)∧(cy g p).Lp (Lf g p)(Rf g p)(Rf g p k)(Lf g p i)):=fun⟨a,b⟩=>qA hok F ei ek a b
 have PA:¬((cy g p).lU (hd g i)(tl g k)∧(cy g p).Lp (Lf g p)(Rf g p)(Rf g p i)(Lf g p k)):=fun⟨a,b⟩=>pe hok F ei ek a b
 have PB:¬((cy g p).lU (hd g i)(tl g k)∧(cy g p).Lp (Lf g p)(Rf g p)(Rf g p k)(Lf g p i)):=fun⟨a,b⟩=>jI hok F ei ek a b
 have PC:¬((cy g p).lU (hd g k)(tl g i)∧(cy g p).Lp (Lf g p)(Rf g p)(Rf g p i)(Lf g p k)):=fun⟨a,b⟩=>jI hok F ek ei a b
 have PD:¬((cy g p).lU (hd g k)(tl g i)∧(cy g p).Lp (Lf g p)(Rf g p)(Rf g p k)(Lf g p i)):=fun⟨a,b⟩=>pe hok F ek ei a b
 have cs:(cy g p).lU (hd g i)(tl g k)∨(cy g p).lU (hd g k)(tl g i)∨(cy g p).Lp (Lf g p)(Rf g p)(Rf g p i)(Lf g p k)∨(cy g p).Lp (Lf g p)(Rf g p)(Rf g p k)(Lf g p i):=Aa hok F ei ek (by omega)
 rw [← e1, ← e2] at Py
 rw [← e3, ← e4] at Pz
 rw [← e1, ← e3] at PA
 rw [← e1, ← e4] at PB
 rw [← e2, ← e3] at PC
 rw [← e2, ← e4] at PD
 rw [← e1, ← e2, ← e3, ← e4] at cs
 generalize kz ((tg g).getD (hd g i).toNat 0)(tl g k)=a1 at*
 generalize kz ((tg g).getD (hd g k).toNat 0)(tl g i)=a2 at*
 generalize kz ((tg (ur g p)).getD (Rf g p i).toNat 0)(Lf g p k)=a3 at*
 generalize kz ((tg (ur g p)).getD (Rf g p k).toNat 0)(Lf g p i)=a4 at*
 clear e1 e2 e3 e4
 cases a1<;>cases a2<;>cases a3<;>cases a4<;>simp_all [vG]
theorem th (g:Gr)(p:Pl)(hl:g.es.length≤9223372036854775807)(hp:zC p):Spec Tryz.prog 8 (Args [eG g,ePl p]) [](eB true) []:=by
 obtain⟨b,hr⟩:=Pd g p
 have Kj:=vF g hl p hp b hr
 (refine Spec.intro (C:=T.cfg [] [])(rs:= [.t 4])(T.au _ _)Tryz.func8 rfl rfl Tryz.ntmps8 Tryz.results8 (by simp [AObj.isNest])(by simp [AObj.isNest])(by kernel_rfl) ?_;intro X hX hP hC aI aJ vals hA;refine⟨_,by simp,hA, ?_⟩;have af:X.P.follows .mixedOrders=true:=(by rw [hP];exact T.mixed);clear aI aJ)
 cases ha:xL b g p with
 |false=>
  rw [ha] at Kj
  repeat' (first|fail|((first|((with_reducible (first|apply oA|apply oB));exact rfl;intro K hK)|(refine hK _ ?_;clear hK K)|((with_reducible (first|apply oG|apply oH));iterate 3 exact rfl)|((with_reducible apply oI);(iterate 2 exact rfl);intro K hK)|(with_reducible (first|apply wI|apply wJ|apply wK)));try simp only [go_sem,simprocAttr])|fail|(with_reducible (first|apply oC|apply oJ|exact oK|apply wA|apply wB|apply wC hX hC|apply wD hX hC|apply wE hX hC af|apply wF hX hC af|apply wG|apply wH|apply And.intro))|((with_reducible refine oD ?_ ?_);first|fail|kernel_rfl)|((with_reducible (first|apply oE|apply oF));(iterate 3 exact rfl);all_goals (intro h;first|(exact absurd h (by decide))|((try simp only [go_sem,simprocAttr] at h);(try with_reducible intro K hK);simp only [go_sem,simprocAttr])))|((first|((with_reducible apply wL);exact rfl)|((with_reducible apply wM);exact rfl));all_goals (try ((with_reducible intro h);first|(exact absurd h (by decide))|(try simp only [go_sem,simprocAttr] at h))))|omega|((first|first|refine aa hX hC hP (mo)rfl rfl rfl (by simp only [go_sem,simprocAttr])rfl ?_|refine aa hX hC hP (Kj)rfl rfl rfl (by simp only [go_sem,simprocAttr])rfl ?_);try simp only [go_sem,simprocAttr])|(intro h))
 |true=>
 rw [ha] at Kj
 obtain⟨hB,hI,hrun,h0,NH⟩:=Gs hr ha
 have hm:=aF hrun.1
 have hn:=aV hm
 have hm2:=zZ hrun hI h0 NH
 have hD:=pS g (by omega)p (xC hB)b hr
 rw [Gt hr hrun hI h0] at hD
 simp only at hD
 have NI:=xK⟨arr (Lf g p)g.es.length,arr (Rf g p)g.es.length,ES g p,GP g p⟩(by simp only [c9];omega)(by simp only [c9])
 simp only [EX] at NI
 have PE:=uq g hl
 have PF:=uq (ur g p)(by rw [qt];omega)
 have hone:=fun i k=>DB (i:=i)(k:=k)hrun hI h0 NH
 have uu:=vE hm
 have tj:=vE hm2
 have yO:=fun x=>Dw (x:=x)hm
 have JX:=fun x=>Dw (x:=x)hm2
 have MN:=fun (i:Nat)(hi:i<g.es.length)=>zW hrun hI (e:=(i:Int))(by omega)
 have MO:=fun (i:Nat)(hi:i<g.es.length)=>zV hrun hI (e:=(i:Int))(by omega)
 have MP:=fun (i:Nat)(hi:i<g.es.length)=>o6 (f:=Lf g p)hi
 have DW:=fun (i:Nat)(hi:i<g.es.length)=>o6 (f:=Rf g p)hi
 have uv:(arr (Lf g p)g.es.length).length=g.es.length:=c9
 have s6:(arr (Rf g p)g.es.length).length=g.es.length:=c9
 have hlo:=zT (g:=g)(p:=p)
 have NJ:(ur g p).n.toNat=cN g p+1:=by show ((cN g p:Int)+1).toNat=_;omega
 rw [NJ] at tj
 clear NJ
 generalize arr (Lf g p)g.es.length=LA at*
 generalize arr (Rf g p)g.es.length=RA at*
 generalize ES g p=lo at*
 generalize GP g p=hi at*
 generalize tg g=U at*
 generalize tg (ur g p)=V at*
 generalize cN g p=cn at*
 have DC:decide (((g.n.toNat:Nat):Int)=g.n)=true:=decide_eq_true (by omega)
 repeat' (first|fail|((first|((with_reducible (first|apply oA|apply oB));exact rfl;intro K hK)|(refine hK _ ?_;clear hK K)|((with_reducible (first|apply oG|apply oH));iterate 3 exact rfl)|((with_reducible apply oI);(iterate 2 exact rfl);intro K hK)|(with_reducible (first|apply wI|apply wJ|apply wK)));try simp only [go_sem,simprocAttr,fM,uv,s6,uu,tj,hlo,DC,decide_true,decide_false])|fail|(with_reducible (first|apply oC|apply oJ|exact oK|apply wA|apply wB|apply wC hX hC|apply wD hX hC|apply wE hX hC af|apply wF hX hC af|apply wG|apply wH|apply And.intro))|((with_reducible refine oD ?_ ?_);first|fail|kernel_rfl)|((with_reducible (first|apply oE|apply oF));(iterate 3 exact rfl);all_goals (intro h;first|(exact absurd h (by decide))|((try simp only [go_sem,simprocAttr,fM,uv,s6,uu,tj,hlo,DC,decide_true,decide_false] at h);(try with_reducible intro K hK);simp only [go_sem,simprocAttr,fM,uv,s6,uu,tj,hlo,DC,decide_true,decide_false])))|((first|((with_reducible apply wL);exact rfl)|((with_reducible apply wM);exact rfl));all_goals (try ((with_reducible intro h);first|(exact absurd h (by decide))|(try simp only [go_sem,simprocAttr,fM,uv,s6,uu,tj,hlo,DC,decide_true,decide_false] at h))))|omega|((first|first|refine aa hX hC hP (mo)rfl rfl rfl (by simp only [go_sem,simprocAttr,fM,uv,s6,uu,tj,hlo,DC,decide_true,decide_false])rfl ?_|refine aa hX hC hP (Kj)rfl rfl rfl (by simp only [go_sem,simprocAttr,fM,uv,s6,uu,tj,hlo,DC,decide_true,decide_false])rfl ?_|refine aa hX hC hP (hD)rfl rfl rfl (by simp only [go_sem,simprocAttr,fM,uv,s6,uu,tj,hlo,DC,decide_true,decide_false])rfl ?_|refine aa hX hC hP (NI)rfl rfl rfl (by simp only [go_sem,simprocAttr,fM,uv,s6,uu,tj,hlo,DC,decide_true,decide_false])rfl ?_|refine aa hX hC hP (PE)rfl rfl rfl (by simp only [go_sem,simprocAttr,fM,uv,s6,uu,tj,hlo,DC,decide_true,decide_false])rfl ?_|refine aa hX hC hP (PF)rfl rfl rfl (by simp only [go_sem,simprocAttr,fM,uv,s6,uu,tj,hlo,DC,decide_true,decide_false])rfl ?_);try simp only [go_sem,simprocAttr,fM,uv,s6,uu,tj,hlo,DC,decide_true,decide_false])|(intro h))
 refine an (fun i:Nat=>i≤g.es.length)(fun i=>⟨[(2, .ptr 2 0),(3, .ptr 3 0),(5, .ptr 5 0),(7, .d (sU U)),(8, .d (sU V)),(67, .d (sE g.es)),(68,eN g.es.length),(69,eN i)], [(2, .box [eN g.n, .d (sE g.es)]),(3, .box [.d (sI p.ord), .d (.sl 1 (vI p.outs))]),(5, .box [.d (sI LA), .d (sI RA), .d (sI lo), .d (sI hi)])]⟩)(fun i=>g.es.length - i)0 (by omega) ?_ ?_
 ·refine Le.of ?_ ?_<;>simp [go_sem,simprocAttr]
 rintro i hi1
 rcases Nat.lt_or_ge i g.es.length with hil|Kb
 rotate_left
 ·have mT:decide ((i:Int)<(g.es.length:Int))=false:=decide_eq_false (by omega)
  repeat' (first|fail|((first|((with_reducible (first|apply oA|apply oB));exact rfl;intro K hK)|(refine hK _ ?_;clear hK K)|((with_reducible (first|apply oG|apply oH));iterate 3 exact rfl)|((with_reducible apply oI);(iterate 2 exact rfl);intro K hK)|(with_reducible (first|apply wI|apply wJ|apply wK)));try simp only [go_sem,simprocAttr,mT])|fail|(with_reducible (first|apply oC|apply oJ|exact oK|apply wA|apply wB|apply wC hX hC|apply wD hX hC|apply wE hX hC af|apply wF hX hC af|apply wG|apply wH|apply And.intro))|((with_reducible refine oD ?_ ?_);first|fail|kernel_rfl)|((with_reducible (first|apply oE|apply oF));(iterate 3 exact rfl);all_goals (intro h;first|(exact absurd h (by decide))|((try simp only [go_sem,simprocAttr,mT] at h);(try with_reducible intro K hK);simp only [go_sem,simprocAttr,mT])))|((first|((with_reducible apply wL);exact rfl)|((with_reducible apply wM);exact rfl));all_goals (try ((with_reducible intro h);first|(exact absurd h (by decide))|(try simp only [go_sem,simprocAttr,mT] at h))))|omega|((first|fail);try simp only [go_sem,simprocAttr,mT])|(intro h))
 have mT:decide ((i:Int)<(g.es.length:Int))=true:=decide_eq_true (by omega)
 repeat' (first|fail|((first|((with_reducible (first|apply oA|apply oB));exact rfl;intro K hK)|(refine hK _ ?_;clear hK K)|((with_reducible (first|apply oG|apply oH));iterate 3 exact rfl)|((with_reducible apply oI);(iterate 2 exact rfl);intro K hK)|(with_reducible (first|apply wI|apply wJ|apply wK)));try simp only [go_sem,simprocAttr,mT])|fail|(with_reducible (first|apply oC|apply oJ|exact oK|apply wA|apply wB|apply wC hX hC|apply wD hX hC|apply wE hX hC af|apply wF hX hC af|apply wG|apply wH|apply And.intro))|((with_reducible refine oD ?_ ?_);first|fail|kernel_rfl)|((with_reducible (first|apply oE|apply oF));(iterate 3 exact rfl);all_goals (intro h;first|(exact absurd h (by decide))|((try simp only [go_sem,simprocAttr,mT] at h);(try with_reducible intro K hK);simp only [go_sem,simprocAttr,mT])))|((first|((with_reducible apply wL);exact rfl)|((with_reducible apply wM);exact rfl));all_goals (try ((with_reducible intro h);first|(exact absurd h (by decide))|(try simp only [go_sem,simprocAttr,mT] at h))))|omega|((first|fail);try simp only [go_sem,simprocAttr,mT])|(intro h))
 refine an (fun k:Nat=>k≤g.es.length)(fun k=>⟨[(2, .ptr 2 0),(3, .ptr 3 0),(5, .ptr 5 0),(7, .d (sU U)),(8, .d (sU V)),(9,eN i),(10, .ptr 10 0),(67, .d (sE g.es)),(68,eN g.es.length),(69,eN i),(75, .d (sE g.es)),(76,eN g.es.length),(77,eN k)], [(2, .box [eN g.n, .d (sE g.es)]),(3, .box [.d (sI p.ord), .d (.sl 1 (vI p.outs))]),(5, .box [.d (sI LA), .d (sI RA), .d (sI lo), .d (sI hi)]),(10, .box [eN (g.es.getD i (0,0)).1,eN (g.es.getD i (0,0)).2])]⟩)(fun k=>g.es.length - k)0 (by omega) ?_ ?_
 ·refine Le.of ?_ ?_<;>simp [go_sem,simprocAttr]
 rintro k xO
 rcases Nat.lt_or_ge k g.es.length with ck|FC
 rotate_left
 ·have cE:decide ((k:Int)<(g.es.length:Int))=false:=decide_eq_false (by omega)
  repeat' (first|fail|((first|((with_reducible (first|apply oA|apply oB));exact rfl;intro K hK)|(refine hK _ ?_;clear hK K)|((with_reducible (first|apply oG|apply oH));iterate 3 exact rfl)|((with_reducible apply oI);(iterate 2 exact rfl);intro K hK)|(with_reducible (first|apply wI|apply wJ|apply wK)));try simp only [go_sem,simprocAttr,cE])|fail|(with_reducible (first|apply oC|apply oJ|exact oK|apply wA|apply wB|apply wC hX hC|apply wD hX hC|apply wE hX hC af|apply wF hX hC af|apply wG|apply wH|apply And.intro))|((with_reducible refine oD ?_ ?_);first|fail|kernel_rfl)|((with_reducible (first|apply oE|apply oF));(iterate 3 exact rfl);all_goals (intro h;first|(exact absurd h (by decide))|((try simp only [go_sem,simprocAttr,cE] at h);(try with_reducible intro K hK);simp only [go_sem,simprocAttr,cE])))|((first|((with_reducible apply wL);exact rfl)|((with_reducible apply wM);exact rfl));all_goals (try ((with_reducible intro h);first|(exact absurd h (by decide))|(try simp only [go_sem,simprocAttr,cE] at h))))|omega|((first|fail);try simp only [go_sem,simprocAttr,cE])|(intro h))
  refine⟨i+1,by omega, ?_,by omega⟩
  refine Le.of ?_ ?_<;>simp [go_sem,simprocAttr,cE]
 have cE:decide ((k:Int)<(g.es.length:Int))=true:=decide_eq_true (by omega)
 by_cases hik:i=k
 ·subst hik
  repeat' (first|fail|((first|((with_reducible (first|apply oA|apply oB));exact rfl;intro K hK)|(refine hK _ ?_;clear hK K)|((with_reducible (first|apply oG|apply oH));iterate 3 exact rfl)|((with_reducible apply oI);(iterate 2 exact rfl);intro K hK)|(with_reducible (first|apply wI|apply wJ|apply wK)));try simp only [go_sem,simprocAttr,cE,decide_true])|fail|(with_reducible (first|apply oC|apply oJ|exact oK|apply wA|apply wB|apply wC hX hC|apply wD hX hC|apply wE hX hC af|apply wF hX hC af|apply wG|apply wH|apply And.intro))|((with_reducible refine oD ?_ ?_);first|fail|kernel_rfl)|((with_reducible (first|apply oE|apply oF));(iterate 3 exact rfl);all_goals (intro h;first|(exact absurd h (by decide))|((try simp only [go_sem,simprocAttr,cE,decide_true] at h);(try with_reducible intro K hK);simp only [go_sem,simprocAttr,cE,decide_true])))|((first|((with_reducible apply wL);exact rfl)|((with_reducible apply wM);exact rfl));all_goals (try ((with_reducible intro h);first|(exact absurd h (by decide))|(try simp only [go_sem,simprocAttr,cE,decide_true] at h))))|omega|((first|fail);try simp only [go_sem,simprocAttr,cE,decide_true])|(intro h))
  refine⟨i+1,by omega, ?_,by omega⟩
  refine Le.of ?_ ?_<;>simp [go_sem,simprocAttr,cE,decide_true]
 have yw:decide ((i:Int)=(k:Int))=false:=decide_eq_false (by omega)
 have hone:=hone i k hil ck hik
 have r1:=MO i hil
 have r2:=MO k ck
 have l1:=MN i hil
 have l2:=MN k ck
 have a1:=DW i hil
 have a2:=DW k ck
 have a3:=MP i hil
 have a4:=MP k ck
 obtain⟨t1,t2⟩:=dK hm hil
 obtain⟨t3,t4⟩:=dK hm ck
 have e1:hd g i=(g.es.getD i (0,0)).2:=rfl
 have e2:tl g i=(g.es.getD i (0,0)).1:=rfl
 have e3:hd g k=(g.es.getD k (0,0)).2:=rfl
 have e4:tl g k=(g.es.getD k (0,0)).1:=rfl
 rw [e1,e2,e3,e4, ← a1, ← a2, ← a3, ← a4] at hone
 rw [← a1] at r1
 rw [← a2] at r2
 rw [← a3] at l1
 rw [← a4] at l2
 generalize g.es.getD i (0,0)=A at*
 generalize hge:g.es.getD k (0,0)=B at*
 clear e1 e2 e3 e4 a1 a2 a3 a4 MP DW MN MO
 obtain⟨Kk,NK⟩:=A
 obtain⟨MQ,NL⟩:=B
 simp only at t1 t2 t3 t4 hone
 obtain⟨ri,mB⟩:∃n:Nat,RA.getD i 0=n:=⟨(RA.getD i 0).toNat,by omega⟩
 obtain⟨rk,wO⟩:∃n:Nat,RA.getD k 0=n:=⟨(RA.getD k 0).toNat,by omega⟩
 obtain⟨ah,rfl⟩:∃n:Nat,NK=n:=⟨NK.toNat,by omega⟩
 obtain⟨bh,rfl⟩:∃n:Nat,NL=n:=⟨NL.toNat,by omega⟩
 rw [mB] at r1
 rw [wO] at r2
 simp only [mB,wO,Int.toNat_natCast] at hone
 have H1:Spec Tryz.prog 34 (Args [eU (U.getD ah 0),eN MQ]) [](eB (kz (U.getD ah 0)MQ)) []:=lQ _ (yO _)_
 have H2:Spec Tryz.prog 34 (Args [eU (U.getD bh 0),eN Kk]) [](eB (kz (U.getD bh 0)Kk)) []:=lQ _ (yO _)_
 have H3:Spec Tryz.prog 34 (Args [eU (V.getD ri 0),eN (LA.getD k 0)]) [](eB (kz (V.getD ri 0)(LA.getD k 0))) []:=lQ _ (JX _)_
 have H4:Spec Tryz.prog 34 (Args [eU (V.getD rk 0),eN (LA.getD i 0)]) [](eB (kz (V.getD rk 0)(LA.getD i 0))) []:=lQ _ (JX _)_
 generalize kz (U.getD ah 0)MQ=d1 at*
 generalize kz (U.getD bh 0)Kk=d2 at*
 generalize kz (V.getD ri 0)(LA.getD k 0)=d3 at*
 generalize kz (V.getD rk 0)(LA.getD i 0)=d4 at*
 have g1:decide ((ri:Int)<0)=false:=decide_eq_false (by omega)
 have g2:decide ((cn+1:Nat)≤(ri:Int))=false:=decide_eq_false (by omega)
 have g3:decide ((rk:Int)<0)=false:=decide_eq_false (by omega)
 have g4:decide ((cn+1:Nat)≤(rk:Int))=false:=decide_eq_false (by omega)
 repeat' (first|fail|((first|((with_reducible (first|apply oA|apply oB));exact rfl;intro K hK)|(refine hK _ ?_;clear hK K)|((with_reducible (first|apply oG|apply oH));iterate 3 exact rfl)|((with_reducible apply oI);(iterate 2 exact rfl);intro K hK)|(with_reducible (first|apply wI|apply wJ|apply wK)));try simp only [go_sem,simprocAttr,hge,cE,yw,mB,wO,g1,g2,g3,g4,uv,s6,uu,tj])|fail|(with_reducible (first|apply oC|apply oJ|exact oK|apply wA|apply wB|apply wC hX hC|apply wD hX hC|apply wE hX hC af|apply wF hX hC af|apply wG|apply wH|apply And.intro))|((with_reducible refine oD ?_ ?_);first|fail|kernel_rfl)|((with_reducible (first|apply oE|apply oF));(iterate 3 exact rfl);all_goals (intro h;first|(exact absurd h (by decide))|((try simp only [go_sem,simprocAttr,hge,cE,yw,mB,wO,g1,g2,g3,g4,uv,s6,uu,tj] at h);(try with_reducible intro K hK);simp only [go_sem,simprocAttr,hge,cE,yw,mB,wO,g1,g2,g3,g4,uv,s6,uu,tj])))|((first|((with_reducible apply wL);exact rfl)|((with_reducible apply wM);exact rfl));all_goals (try ((with_reducible intro h);first|(exact absurd h (by decide))|(try simp only [go_sem,simprocAttr,hge,cE,yw,mB,wO,g1,g2,g3,g4,uv,s6,uu,tj] at h))))|omega|((first|first|refine aa hX hC hP (H1)rfl rfl rfl (by simp only [go_sem,simprocAttr,hge,cE,yw,mB,wO,g1,g2,g3,g4,uv,s6,uu,tj])rfl ?_|refine aa hX hC hP (H2)rfl rfl rfl (by simp only [go_sem,simprocAttr,hge,cE,yw,mB,wO,g1,g2,g3,g4,uv,s6,uu,tj])rfl ?_|refine aa hX hC hP (H3)rfl rfl rfl (by simp only [go_sem,simprocAttr,hge,cE,yw,mB,wO,g1,g2,g3,g4,uv,s6,uu,tj])rfl ?_|refine aa hX hC hP (H4)rfl rfl rfl (by simp only [go_sem,simprocAttr,hge,cE,yw,mB,wO,g1,g2,g3,g4,uv,s6,uu,tj])rfl ?_);try simp only [go_sem,simprocAttr,hge,cE,yw,mB,wO,g1,g2,g3,g4,uv,s6,uu,tj])|(intro h))
 refine an (fun j:Nat=>j≤4)(fun j=>⟨[(2, .ptr 2 0),(3, .ptr 3 0),(5, .ptr 5 0),(7, .d (sU U)),(8, .d (sU V)),(9,eN i),(10, .ptr 10 0),(67, .d (sE g.es)),(68,eN g.es.length),(69,eN i),(75, .d (sE g.es)),(76,eN g.es.length),(77,eN k),(13,eN (vG d1 d2 d3 d4 j)),(163, .agg [eB d1,eB d2,eB d3,eB d4]),(164,eN j)], [(2, .box [eN g.n, .d (sE g.es)]),(3, .box [.d (sI p.ord), .d (.sl 1 (vI p.outs))]),(5, .box [.d (sI LA), .d (sI RA), .d (sI lo), .d (sI hi)]),(10, .box [eN Kk,eN (ah:Int)])]⟩)(fun j=>4 - j)0 (by omega) ?_ ?_
 ·refine Le.of ?_ ?_<;>simp [go_sem,simprocAttr,vG]
 rintro j hj
 match j,hj with
 |0,_=>
  have hcb:=qu (a:=d1)(b:=d2)(c:=d3)(d:=d4)(j:=0)
  repeat' (first|fail|((first|((with_reducible (first|apply oA|apply oB));exact rfl;intro K hK)|(refine hK _ ?_;clear hK K)|((with_reducible (first|apply oG|apply oH));iterate 3 exact rfl)|((with_reducible apply oI);(iterate 2 exact rfl);intro K hK)|(with_reducible (first|apply wI|apply wJ|apply wK)));try simp only [go_sem,simprocAttr])|fail|(with_reducible (first|apply oC|apply oJ|exact oK|apply wA|apply wB|apply wC hX hC|apply wD hX hC|apply wE hX hC af|apply wF hX hC af|apply wG|apply wH|apply And.intro))|((with_reducible refine oD ?_ ?_);first|fail|kernel_rfl)|((with_reducible (first|apply oE|apply oF));(iterate 3 exact rfl);all_goals (intro h;first|(exact absurd h (by decide))|((try simp only [go_sem,simprocAttr] at h);(try with_reducible intro K hK);simp only [go_sem,simprocAttr])))|((first|((with_reducible apply wL);exact rfl)|((with_reducible apply wM);exact rfl));all_goals (try ((with_reducible intro h);first|(exact absurd h (by decide))|(try simp only [go_sem,simprocAttr] at h))))|omega|((first|fail);try simp only [go_sem,simprocAttr])|(intro h))
  all_goals (refine⟨1,by omega, ?_,by omega⟩)
  all_goals (refine Le.of ?_ ?_<;>simp [go_sem,simprocAttr,vG, *])
 |1,_=>
  have hcb:=qu (a:=d1)(b:=d2)(c:=d3)(d:=d4)(j:=1)
  repeat' (first|fail|((first|((with_reducible (first|apply oA|apply oB));exact rfl;intro K hK)|(refine hK _ ?_;clear hK K)|((with_reducible (first|apply oG|apply oH));iterate 3 exact rfl)|((with_reducible apply oI);(iterate 2 exact rfl);intro K hK)|(with_reducible (first|apply wI|apply wJ|apply wK)));try simp only [go_sem,simprocAttr])|fail|(with_reducible (first|apply oC|apply oJ|exact oK|apply wA|apply wB|apply wC hX hC|apply wD hX hC|apply wE hX hC af|apply wF hX hC af|apply wG|apply wH|apply And.intro))|((with_reducible refine oD ?_ ?_);first|fail|kernel_rfl)|((with_reducible (first|apply oE|apply oF));(iterate 3 exact rfl);all_goals (intro h;first|(exact absurd h (by decide))|((try simp only [go_sem,simprocAttr] at h);(try with_reducible intro K hK);simp only [go_sem,simprocAttr])))|((first|((with_reducible apply wL);exact rfl)|((with_reducible apply wM);exact rfl));all_goals (try ((with_reducible intro h);first|(exact absurd h (by decide))|(try simp only [go_sem,simprocAttr] at h))))|omega|((first|fail);try simp only [go_sem,simprocAttr])|(intro h))
  all_goals (refine⟨2,by omega, ?_,by omega⟩)
  all_goals (refine Le.of ?_ ?_<;>cases d1<;>simp [go_sem,simprocAttr,vG, *])
 |2,_=>
  have hcb:=qu (a:=d1)(b:=d2)(c:=d3)(d:=d4)(j:=2)
  repeat' (first|fail|((first|((with_reducible (first|apply oA|apply oB));exact rfl;intro K hK)|(refine hK _ ?_;clear hK K)|((with_reducible (first|apply oG|apply oH));iterate 3 exact rfl)|((with_reducible apply oI);(iterate 2 exact rfl);intro K hK)|(with_reducible (first|apply wI|apply wJ|apply wK)));try simp only [go_sem,simprocAttr])|fail|(with_reducible (first|apply oC|apply oJ|exact oK|apply wA|apply wB|apply wC hX hC|apply wD hX hC|apply wE hX hC af|apply wF hX hC af|apply wG|apply wH|apply And.intro))|((with_reducible refine oD ?_ ?_);first|fail|kernel_rfl)|((with_reducible (first|apply oE|apply oF));(iterate 3 exact rfl);all_goals (intro h;first|(exact absurd h (by decide))|((try simp only [go_sem,simprocAttr] at h);(try with_reducible intro K hK);simp only [go_sem,simprocAttr])))|((first|((with_reducible apply wL);exact rfl)|((with_reducible apply wM);exact rfl));all_goals (try ((with_reducible intro h);first|(exact absurd h (by decide))|(try simp only [go_sem,simprocAttr] at h))))|omega|((first|fail);try simp only [go_sem,simprocAttr])|(intro h))
  all_goals (refine⟨3,by omega, ?_,by omega⟩)
  all_goals (refine Le.of ?_ ?_<;>cases d1<;>cases d2<;>simp [go_sem,simprocAttr,vG, *])
 |3,_=>
  have hcb:=qu (a:=d1)(b:=d2)(c:=d3)(d:=d4)(j:=3)
  repeat' (first|fail|((first|((with_reducible (first|apply oA|apply oB));exact rfl;intro K hK)|(refine hK _ ?_;clear hK K)|((with_reducible (first|apply oG|apply oH));iterate 3 exact rfl)|((with_reducible apply oI);(iterate 2 exact rfl);intro K hK)|(with_reducible (first|apply wI|apply wJ|apply wK)));try simp only [go_sem,simprocAttr])|fail|(with_reducible (first|apply oC|apply oJ|exact oK|apply wA|apply wB|apply wC hX hC|apply wD hX hC|apply wE hX hC af|apply wF hX hC af|apply wG|apply wH|apply And.intro))|((with_reducible refine oD ?_ ?_);first|fail|kernel_rfl)|((with_reducible (first|apply oE|apply oF));(iterate 3 exact rfl);all_goals (intro h;first|(exact absurd h (by decide))|((try simp only [go_sem,simprocAttr] at h);(try with_reducible intro K hK);simp only [go_sem,simprocAttr])))|((first|((with_reducible apply wL);exact rfl)|((with_reducible apply wM);exact rfl));all_goals (try ((with_reducible intro h);first|(exact absurd h (by decide))|(try simp only [go_sem,simprocAttr] at h))))|omega|((first|fail);try simp only [go_sem,simprocAttr])|(intro h))
  all_goals (refine⟨4,by omega, ?_,by omega⟩)
  all_goals (refine Le.of ?_ ?_<;>cases d1<;>cases d2<;>cases d3<;>simp [go_sem,simprocAttr,vG, *])
 |4,_=>
  rw [hone]
  repeat' (first|fail|((first|((with_reducible (first|apply oA|apply oB));exact rfl;intro K hK)|(refine hK _ ?_;clear hK K)|((with_reducible (first|apply oG|apply oH));iterate 3 exact rfl)|((with_reducible apply oI);(iterate 2 exact rfl);intro K hK)|(with_reducible (first|apply wI|apply wJ|apply wK)));try simp only [go_sem,simprocAttr])|fail|(with_reducible (first|apply oC|apply oJ|exact oK|apply wA|apply wB|apply wC hX hC|apply wD hX hC|apply wE hX hC af|apply wF hX hC af|apply wG|apply wH|apply And.intro))|((with_reducible refine oD ?_ ?_);first|fail|kernel_rfl)|((with_reducible (first|apply oE|apply oF));(iterate 3 exact rfl);all_goals (intro h;first|(exact absurd h (by decide))|((try simp only [go_sem,simprocAttr] at h);(try with_reducible intro K hK);simp only [go_sem,simprocAttr])))|((first|((with_reducible apply wL);exact rfl)|((with_reducible apply wM);exact rfl));all_goals (try ((with_reducible intro h);first|(exact absurd h (by decide))|(try simp only [go_sem,simprocAttr] at h))))|omega|((first|fail);try simp only [go_sem,simprocAttr])|(intro h))
  refine⟨k+1,by omega, ?_,by omega⟩
  refine Le.of ?_ ?_<;>simp [go_sem,simprocAttr]
end Go.Ab
end
