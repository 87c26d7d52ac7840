/- A part of the proof. -/
import Derived.Test.YtchjjbfhlchpfaaGreatL3P19
set_option linter.unusedSimpArgs false
set_option linter.unusedVariables false
section
namespace Go.Ab
open Go.Proofs
attribute [local congr] ACall.congr gd.congr Nx.congr
set_option maxRecDepth 10000
set_option maxHeartbeats 8000000
def N4 (A fs:List Int) (x:Int) (j:Nat):List Int:=DK A fs (fun _=>x) j
end Go.Ab
end
section
namespace Go.Ab
open Go.Proofs
set_option maxRecDepth 10000
set_option linter.unusedSectionVars false
def arr (f:Int→Int) (m:Nat):List Int:=(List.range m).map fun i:Nat=>f (i:Int)
section
variable {g:Gr} {p:Pl} (h:aX g p)
include h
end
section
variable (g:Gr) (p:Pl)
def CK:Nat→List Int
 |0=>cl p (aE p 0)
 |j+1=>if cl p (aE p (j+1))= [] then CK j else (CK j).take (fq (CK j) (Bq g p (aE p (j+1)))).toNat++cl p (aE p (j+1))++(CK j).drop ((fq (CK j) (Bq g p (aE p (j+1)))).toNat+(nM g p (aE p (j+1))).length)
def N5:Nat→List Int
 |0=> [0]++Kl 1 ((cl p (aE p 0)).length - 1)++ [-1]
 |j+1=>(N5 j).take ((fq (CK g p j) (Bq g p (aE p (j+1)))).toNat+1)++Kl (cK p (j+1)) ((cl p (aE p (j+1))).length - 1)++(N5 j).drop ((fq (CK g p j) (Bq g p (aE p (j+1)))).toNat+(nM g p (aE p (j+1))).length)
def N6 (k:Nat):List Int:=((nM g p (aE p k)).dropLast).map (RK g p (-1) k)
def QZ:Nat→List Int
 |0=> [aE p (g.n.toNat - 1)]
 |k+1=>N4 (QZ k) (N6 g p k) (aE p k) (N6 g p k).length++List.replicate ((cl p (aE p k)).length - 1) 0
end
section
variable {g:Gr} {p:Pl}
variable (h:aX g p)
include h
end
end Go.Ab
end
section
namespace Go.Ab
open Go.Proofs
attribute [local congr] ACall.congr gd.congr Nx.congr
set_option maxRecDepth 60000
set_option maxHeartbeats 8000000
structure Fc where
 L:List Int
 R:List Int
 lo:List Int
 hi:List Int
def Q0 (g:Gr) (p:Pl) (f:Int):Int:=if f= -1 then (cK p g.n.toNat:Int) else f
def T8 (g:Gr) (p:Pl):Fc:=⟨arr (LK g p g.n.toNat) g.es.length,(arr (RK g p (-1) g.n.toNat) g.es.length).map (Q0 g p),LL p g.n.toNat++ [aE p 0],QZ g p g.n.toNat++ [aE p (g.n.toNat - 1)]⟩
def Ua:Fc:=⟨[], [], [], []⟩
def U2 (b:Bool) (g:Gr) (p:Pl):Fc × Int:=if ((bA b g p).2.1=0∧o7 g=true)∧0<g.es.length then (T8 g p,0) else (Ua,1)
def U3 (f:Fc):AV:= .agg [.d (sI f.L), .d (sI f.R), .d (sI f.lo), .d (sI f.hi)]
def Ub (l:List Int) (f:Int→Int) (j:Nat):List Int:=(l.take j).map f++l.drop j
end Go.Ab
end
section
namespace Go.Ab
open Go.Proofs
set_option maxRecDepth 10000
set_option linter.unusedSectionVars false
section
variable (g:Gr) (p:Pl)
def cN:Nat:=cK p g.n.toNat
def Lf (e:Int):Int:=LK g p g.n.toNat e
def Rf (e:Int):Int:=RK g p (cN g p) g.n.toNat e
def Uc:List Int:=LL p g.n.toNat++ [aE p 0]
def Ud:List Int:=QZ g p g.n.toNat++ [aE p (g.n.toNat - 1)]
def U4 (f:Int):Int:=(Uc g p).getD f.toNat 0
def U5 (f:Int):Int:=(Ud g p).getD f.toNat 0
end
section
variable {g:Gr} {p:Pl}
variable (h:aX g p) (hI:o7 g=true)
include h hI
end
end Go.Ab
end
section
namespace Go.Ab
open Go.Proofs
set_option maxRecDepth 10000
set_option linter.unusedSectionVars false
def Ue (s:Nat) (x:Int):Bool:=decide (0≤x)&&decide (x<64)&&s.testBit x.toNat
section
variable {P:PS} (h:P.Ok) {L R:Int→Int} {f0 f1:Int} {low:Int→Int} (F:P.kG L R f0 f1 low)
def Uf (P:PS) (R:Int→Int) (f:Int):Nat→Nat
 |0=>0
 |j+1=>if R (P.sh j)=f then j+1 else Uf P R f j
include h F
end
section
variable (g:Gr) (p:Pl)
def U6:Gr:=⟨(cN g p:Int)+1,(List.range g.es.length).map fun i:Nat=>(Lf g p i,Rf g p i)⟩
end
section
variable {g:Gr} {p:Pl}
variable (h:aX g p) (hI:o7 g=true)
include h hI
end
end Go.Ab
end
section
namespace Go.Ab
open Go.Proofs
attribute [local congr] ACall.congr gd.congr Nx.congr
set_option maxRecDepth 20000
set_option maxHeartbeats 8000000
end Go.Ab
end
section
namespace Go.Ab
open Go.Proofs
attribute [local congr] ACall.congr gd.congr Nx.congr
set_option maxRecDepth 20000
set_option maxHeartbeats 8000000
def U7 (f:Fc) (k:Nat):List Edge:=(List.range k).map fun i:Nat=>(f.L.getD i 0,f.R.getD i 0)
def Ug (b:Bool) (g:Gr) (p:Pl):Bool:= !vC g p&&o7 g&&decide ((bA b g p).2.1=0)&&decide (0<(g.es.length:Int))&&decide ((g.es.length:Int)≤60)
def U8:Gr:=⟨4, [(0,1),(1,3),(0,2),(2,3)]⟩
def U9:Pl:=⟨[0,1,2,3], [[0,2], [1], [3], []]⟩
end Go.Ab
end
section
namespace Go.Ab
open Go.Proofs
attribute [local congr] ACall.congr gd.congr Nx.congr
set_option maxRecDepth 20000
set_option maxHeartbeats 8000000
theorem nW:Spec Tryz.prog 32 (Args []) [] (eB true) []:=by
 have Q1:=x9 Bl (by decide) Iy ⟨by decide,by decide,by decide⟩ (by decide) (by decide) (by decide) true KS
 rw [QW] at Q1
 simp only at Q1
 have Uh:=sC d21 (by decide) (by decide) (by decide)
 have e1:Bl.es.map rE= [[.sc (.int .i64 0), .sc (.int .i64 1)], [.sc (.int .i64 1), .sc (.int .i64 2)], [.sc (.int .i64 0), .sc (.int .i64 2)]]:=rfl
 have e2:Iy.ord.map rI= [[.sc (.int .i64 0)], [.sc (.int .i64 1)], [.sc (.int .i64 2)]]:=rfl
 have e3:vI Iy.outs= [[.sl 1 [[.sc (.int .i64 0)], [.sc (.int .i64 2)]]], [.sl 1 [[.sc (.int .i64 1)]]], [.sl 1 []]]:=rfl
 have e4:Bl.n=3:=rfl
 have e5:d21.pts.map rP= [[.sc (.int .i64 0), .sc (.int .i64 0)], [.sc (.int .i64 1), .sc (.int .i64 2)], [.sc (.int .i64 3), .sc (.int .i64 3)]]:=rfl
 have e6:vP d21.ls= [[.sl 2 [[.sc (.int .i64 0), .sc (.int .i64 0)], [.sc (.int .i64 1), .sc (.int .i64 2)]]], [.sl 2 [[.sc (.int .i64 1), .sc (.int .i64 2)], [.sc (.int .i64 3), .sc (.int .i64 3)]]], [.sl 2 [[.sc (.int .i64 0), .sc (.int .i64 0)], [.sc (.int .i64 2), .sc (.int .i64 1)], [.sc (.int .i64 3), .sc (.int .i64 3)]]]]:=rfl
 (refine Spec.hd (C:=T.cfg [] []) (rs:= [.t 0]) (T.ai _ _) Tryz.func32 rfl rfl Tryz.ntmps32 Tryz.results32 (by simp [AObj.isNest]) (by simp [AObj.isNest]) (by kernel_rfl) T.mixed fun X hX hP hC aH bU=> ?_)
 repeat' (first|refine Rn.p ?_|(with_reducible apply And.intro)|((first|(refine hK _ ?_;clear hK K)|with_reducible intro K hK|refine Rs.p ?_|((with_reducible first|apply oP|apply oQ);exact rfl)|(refine b8 hX hC hP (Q1) rfl rfl rfl ?_ ?_ rfl ?_;iterate 2 (focus (simp only [go_sem,simprocAttr,e1,e2,e3,e4,e5,e6,List.map_cons,List.map_nil,rI,decide_true];done)))|(refine b8 hX hC hP (Uh) rfl rfl rfl ?_ ?_ rfl ?_;iterate 2 (focus (simp only [go_sem,simprocAttr,e1,e2,e3,e4,e5,e6,List.map_cons,List.map_nil,rI,decide_true];done))));try simp only [go_sem,simprocAttr,e1,e2,e3,e4,e5,e6,List.map_cons,List.map_nil,rI,decide_true])|((with_reducible refine oD ?_ ?_);kernel_rfl)|((with_reducible intro h);try simp only [go_sem,simprocAttr,e1,e2,e3,e4,e5,e6,List.map_cons,List.map_nil,rI,decide_true] at h)|omega|intro h)
theorem JQ {g:Gr} {N:Int} {bs xs ys:List Int} {i:Nat} :2≤(Fe g N bs xs ys i).length∧(Fe g N bs xs ys i).length≤3:=by
 unfold Fe x8
 split<;>simp
theorem JR {b:Bool} {g:Gr} {p:Pl} (hl:g.es.length≤1000) (hr:b=true↔(bL g).1=0∧aU g p):(sy b g p).1.pts.length≤9223372036854775807∧(sy b g p).1.ls.length≤9223372036854775807∧∀l∈(sy b g p).1.ls,l.length≤9223372036854775807:=by
 by_cases h:(sy b g p).2=0
 ·obtain ⟨hR,e⟩:=H8 hr h
  rw [e]
  have hn:=aC (an hR.ok.run.1)
  refine ⟨?_, ?_,fun l hm=> ?_⟩
  ·show (ko _ _ _).length≤_
   rw [qx];omega
  ·show (lT _ _ _ _ _ _).length≤_
   rw [zA];omega
  ·have hm:l∈lT _ _ _ _ _ _:=hm
   unfold lT at hm
   obtain ⟨i,_,rfl⟩:=List.mem_map.1 hm
   have:=(JQ (g:=g) (N:=(ah g p).n) (bs:=dA (ah g p)) (xs:=s4 g p false) (ys:=s4 g p true) (i:=i)).2
   omega
 ·have e:(sy b g p).1=dz:=by
   unfold sy at h ⊢
   split
   ·rfl
   rename_i h0
   rw [if_neg h0] at h
   split
   ·rfl
   rename_i h1
   rw [if_neg h1] at h
   exact absurd rfl h
  rw [e]
  simp [dz]
theorem wm (g:Gr) (p:Pl) (hl:g.es.length≤9223372036854775807) (hp:Hv p):Spec Tryz.prog 7 (Args [eG g,ePl p]) [] (eB true) []:=by
 have hG:=zf g p hl hp
 (refine Spec.hd (C:=T.cfg [] []) (rs:= [.t 4]) (T.ai _ _) Tryz.func7 rfl rfl Tryz.ntmps7 Tryz.results7 (by simp [AObj.isNest]) (by simp [AObj.isNest]) (by kernel_rfl) T.mixed fun X hX hP hC aH bU=> ?_)
 cases hB:vC g p with
 |true=>
  rw [hB] at hG
  repeat' (first|refine Rn.p ?_|(with_reducible apply And.intro)|((first|(refine hK _ ?_;clear hK K)|with_reducible intro K hK|refine Rs.p ?_|((with_reducible first|apply oP|apply oQ);exact rfl)|refine aa hX hC hP (nW) rfl rfl rfl (by simp only [go_sem,simprocAttr]) rfl ?_|refine aa hX hC hP (hG) rfl rfl rfl (by simp only [go_sem,simprocAttr]) rfl ?_);try simp only [go_sem,simprocAttr])|((with_reducible refine oD ?_ ?_);kernel_rfl)|((with_reducible intro h);try simp only [go_sem,simprocAttr] at h)|omega|intro h)
 |false=>
 rw [hB] at hG
 obtain ⟨b1,b2,b3,b4⟩:=Dp hB
 obtain ⟨b,hr⟩:=TE g p
 have Ui:=x9 g (by omega) p (AS hB) (by omega) (by omega) (fun l hl=>by have:=b4 l hl;omega) b hr
 have Uj:=zD g (by omega) p (AS hB) (by omega) (by omega) (fun l hl=>by have:=b4 l hl;omega) b hr
 obtain ⟨l1,l2,l3⟩:=JR (b:=b) (g:=g) (p:=p) (by omega) hr
 have hS:=sC _ l1 l2 l3
 generalize sy b g p=R at*
 have Iu:decide (R.2=R.2)=true:=decide_eq_true rfl
 repeat' (first|refine Rn.p ?_|(with_reducible apply And.intro)|((first|(refine hK _ ?_;clear hK K)|with_reducible intro K hK|refine Rs.p ?_|((with_reducible first|apply oP|apply oQ);exact rfl)|refine aa hX hC hP (nW) rfl rfl rfl (by simp only [go_sem,simprocAttr,Iu]) rfl ?_|refine aa hX hC hP (hG) rfl rfl rfl (by simp only [go_sem,simprocAttr,Iu]) rfl ?_|refine aa hX hC hP (Ui) rfl rfl rfl (by simp only [go_sem,simprocAttr,Iu]) rfl ?_|refine aa hX hC hP (Uj) rfl rfl rfl (by simp only [go_sem,simprocAttr,Iu]) rfl ?_|refine aa hX hC hP (hS) rfl rfl rfl (by simp only [go_sem,simprocAttr,Iu]) rfl ?_);try simp only [go_sem,simprocAttr,Iu])|((with_reducible refine oD ?_ ?_);kernel_rfl)|((with_reducible intro h);try simp only [go_sem,simprocAttr,Iu] at h)|omega|intro h)
end Go.Ab
end
