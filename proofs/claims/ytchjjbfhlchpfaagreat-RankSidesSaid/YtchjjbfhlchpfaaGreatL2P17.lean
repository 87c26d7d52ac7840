/- A part of the proof. -/
import Derived.Test.YtchjjbfhlchpfaaGreatL2P16
set_option linter.unusedSimpArgs false
set_option linter.unusedVariables false
section
namespace Go.Ab
open Go.Proofs
attribute [local congr] ACall.congr
set_option maxRecDepth 10000
set_option maxHeartbeats 8000000
def GZ (x y:List Int) (i:Int):Bool:=decide (0≤i)&&decide (i<min (x.length:Int) (y.length:Int))
def xA (x y:List Int) (a b:Int):Bool:=GZ x y a&&GZ x y b&&decide (x.getD a.toNat 0≤x.getD b.toNat 0)&&decide (y.getD a.toNat 0≤y.getD b.toNat 0)
theorem E6 (x y:List Int):bw [(10000, .rob [.d (sI x)]),(10001, .rob [.d (sI y)])]:=⟨by simp [AObj.ro],by simp [nodupM,look],by simp,by simp [AObj.ids,AV.ids,AV.idss]⟩
theorem qI (x y:List Int) (hx:x.length≤1000) (hy:y.length≤1000) (i:Int):Spec Tryz.prog 67 (Args [eN i, .ptr 10000 0, .ptr 10001 0]) [(10000, .rob [.d (sI x)]),(10001, .rob [.d (sI y)])] (eB (GZ x y i)) [(10000, .rob [.d (sI x)]),(10001, .rob [.d (sI y)])]:=by
 (refine Spec.intro (C:=T.cfg [] []) (rs:= [.t 4]) (T.ai _ _) Tryz.func67 rfl rfl Tryz.ntmps67 Tryz.results67 (fun p hp=>⟨(bw.low (E6 x y) p hp).1,bw.nest (E6 x y) p hp⟩) (fun p hp=>⟨(bw.low (E6 x y) p hp).2,bw.nest (E6 x y) p hp⟩) (by kernel_rfl) ?_;intro X hX hP hC aG aH vals hA;refine ⟨_,by simp,hA, ?_⟩;have af:X.P.follows .mixedOrders=true:=(by rw [hP];exact T.mixed);clear aG aH)
 repeat' (first|((first|((with_reducible (first|apply oA|apply oB));exact rfl;intro K hK)|(refine hK _ ?_;clear hK K)|((with_reducible (first|apply oG|apply oH));iterate 3 exact rfl)|((with_reducible apply oI);(iterate 2 exact rfl);intro K hK)|(with_reducible (first|apply wI|apply wJ|apply wK)));try simp only [go_sem,simprocAttr])|(with_reducible (first|apply oC|apply oJ|exact oK|apply wA|apply wB|apply wC hX hC|apply wD hX hC|apply wE hX hC af|apply wF hX hC af|apply wG|apply wH|apply And.intro))|((with_reducible refine oD ?_ ?_);kernel_rfl)|((with_reducible (first|apply oE|apply oF));(iterate 3 exact rfl);all_goals (intro h;first|(exact absurd h (by decide))|((try simp only [go_sem,simprocAttr] at h);(try with_reducible intro K hK);simp only [go_sem,simprocAttr])))|((first|((with_reducible apply wL);exact rfl)|((with_reducible apply wM);exact rfl));all_goals (try ((with_reducible intro h);first|(exact absurd h (by decide))|(try simp only [go_sem,simprocAttr] at h))))|omega|(intro h))
 all_goals (first|exact eY (E6 x y)|(simp only [GZ];simp [*];done)|trace_state)
theorem Bw {x y:List Int} {i:Int} :GZ x y i=true↔0≤i∧i<x.length∧i<y.length:=by
 simp only [GZ,Bool.and_eq_true,decide_eq_true_eq];omega
theorem ua (x y:List Int) (hx:x.length≤1000) (hy:y.length≤1000) (a b:Int):Spec Tryz.prog 27 (Args [.d (sI x), .d (sI y),eN a,eN b]) [] (eB (xA x y a b)) []:=by
 have II:=qI x y hx hy a
 have IJ:=qI x y hx hy b
 cases ha:GZ x y a with
 |false=>
  have hr:xA x y a b=false:=by unfold xA;rw [ha];rfl
  rw [hr]
  rw [ha] at II
  (refine Spec.intro (C:=T.cfg [] []) (rs:= [.t 8]) (T.ai _ _) Tryz.func27 rfl rfl Tryz.ntmps27 Tryz.results27 (by simp [AObj.isNest]) (by simp [AObj.isNest]) (by kernel_rfl) ?_;intro X hX hP hC aG aH vals hA;refine ⟨_,by simp,hA, ?_⟩;have af:X.P.follows .mixedOrders=true:=(by rw [hP];exact T.mixed);clear aG aH)
  repeat' (first|((first|((with_reducible (first|apply oA|apply oB));exact rfl;intro K hK)|(refine hK _ ?_;clear hK K)|((with_reducible (first|apply oG|apply oH));iterate 3 exact rfl)|((with_reducible apply oI);(iterate 2 exact rfl);intro K hK)|(with_reducible (first|apply wI|apply wJ|apply wK)));try simp only [go_sem,simprocAttr])|(with_reducible (first|apply oC|apply oJ|exact oK|apply wA|apply wB|apply wC hX hC|apply wD hX hC|apply wE hX hC af|apply wF hX hC af|apply wG|apply wH|apply And.intro))|((with_reducible refine oD ?_ ?_);kernel_rfl)|((with_reducible (first|apply oE|apply oF));(iterate 3 exact rfl);all_goals (intro h;first|(exact absurd h (by decide))|((try simp only [go_sem,simprocAttr] at h);(try with_reducible intro K hK);simp only [go_sem,simprocAttr])))|((first|((with_reducible apply wL);exact rfl)|((with_reducible apply wM);exact rfl));all_goals (try ((with_reducible intro h);first|(exact absurd h (by decide))|(try simp only [go_sem,simprocAttr] at h))))|omega|((first|(refine aF hX hC hP [(10000,4),(10001,5)] (II) rfl rfl rfl ?_ ?_ ?_ ?_ ?_ ?_ rfl rfl ?_ ?_;(focus (simp only [go_sem,simprocAttr];done));(iterate 6 (focus (simp [go_sem,simprocAttr];done)));simp only [go_sem,simprocAttr,List.map_cons,List.map_nil])|(refine aF hX hC hP [(10000,4),(10001,5)] (IJ) rfl rfl rfl ?_ ?_ ?_ ?_ ?_ ?_ rfl rfl ?_ ?_;(focus (simp only [go_sem,simprocAttr];done));(iterate 6 (focus (simp [go_sem,simprocAttr];done)));simp only [go_sem,simprocAttr,List.map_cons,List.map_nil]));try simp only [go_sem,simprocAttr])|(intro h))
 |true=>
  rw [ha] at II
  cases hb:GZ x y b with
  |false=>
   have hr:xA x y a b=false:=by unfold xA;rw [ha,hb];rfl
   rw [hr]
   rw [hb] at IJ
   (refine Spec.intro (C:=T.cfg [] []) (rs:= [.t 8]) (T.ai _ _) Tryz.func27 rfl rfl Tryz.ntmps27 Tryz.results27 (by simp [AObj.isNest]) (by simp [AObj.isNest]) (by kernel_rfl) ?_;intro X hX hP hC aG aH vals hA;refine ⟨_,by simp,hA, ?_⟩;have af:X.P.follows .mixedOrders=true:=(by rw [hP];exact T.mixed);clear aG aH)
   repeat' (first|((first|((with_reducible (first|apply oA|apply oB));exact rfl;intro K hK)|(refine hK _ ?_;clear hK K)|((with_reducible (first|apply oG|apply oH));iterate 3 exact rfl)|((with_reducible apply oI);(iterate 2 exact rfl);intro K hK)|(with_reducible (first|apply wI|apply wJ|apply wK)));try simp only [go_sem,simprocAttr])|(with_reducible (first|apply oC|apply oJ|exact oK|apply wA|apply wB|apply wC hX hC|apply wD hX hC|apply wE hX hC af|apply wF hX hC af|apply wG|apply wH|apply And.intro))|((with_reducible refine oD ?_ ?_);kernel_rfl)|((with_reducible (first|apply oE|apply oF));(iterate 3 exact rfl);all_goals (intro h;first|(exact absurd h (by decide))|((try simp only [go_sem,simprocAttr] at h);(try with_reducible intro K hK);simp only [go_sem,simprocAttr])))|((first|((with_reducible apply wL);exact rfl)|((with_reducible apply wM);exact rfl));all_goals (try ((with_reducible intro h);first|(exact absurd h (by decide))|(try simp only [go_sem,simprocAttr] at h))))|omega|((first|(refine aF hX hC hP [(10000,4),(10001,5)] (II) rfl rfl rfl ?_ ?_ ?_ ?_ ?_ ?_ rfl rfl ?_ ?_;(focus (simp only [go_sem,simprocAttr];done));(iterate 6 (focus (simp [go_sem,simprocAttr];done)));simp only [go_sem,simprocAttr,List.map_cons,List.map_nil])|(refine aF hX hC hP [(10000,4),(10001,5)] (IJ) rfl rfl rfl ?_ ?_ ?_ ?_ ?_ ?_ rfl rfl ?_ ?_;(focus (simp only [go_sem,simprocAttr];done));(iterate 6 (focus (simp [go_sem,simprocAttr];done)));simp only [go_sem,simprocAttr,List.map_cons,List.map_nil]));try simp only [go_sem,simprocAttr])|(intro h))
  |true=>
   rw [hb] at IJ
   have h1:=Bw.1 ha
   have h2:=Bw.1 hb
   have hr:xA x y a b=(decide (x.getD a.toNat 0≤x.getD b.toNat 0)&&decide (y.getD a.toNat 0≤y.getD b.toNat 0)):=by unfold xA;rw [ha,hb];rfl
   rw [hr]
   obtain ⟨i,rfl⟩:∃i:Nat,a=i:=⟨a.toNat,by omega⟩
   obtain ⟨j,rfl⟩:∃j:Nat,b=j:=⟨b.toNat,by omega⟩
   simp only [Int.toNat_natCast]
   cases c1:decide (x.getD i 0≤x.getD j 0) with
   |false=>
    (refine Spec.intro (C:=T.cfg [] []) (rs:= [.t 8]) (T.ai _ _) Tryz.func27 rfl rfl Tryz.ntmps27 Tryz.results27 (by simp [AObj.isNest]) (by simp [AObj.isNest]) (by kernel_rfl) ?_;intro X hX hP hC aG aH vals hA;refine ⟨_,by simp,hA, ?_⟩;have af:X.P.follows .mixedOrders=true:=(by rw [hP];exact T.mixed);clear aG aH)
    repeat' (first|((first|((with_reducible (first|apply oA|apply oB));exact rfl;intro K hK)|(refine hK _ ?_;clear hK K)|((with_reducible (first|apply oG|apply oH));iterate 3 exact rfl)|((with_reducible apply oI);(iterate 2 exact rfl);intro K hK)|(with_reducible (first|apply wI|apply wJ|apply wK)));try simp only [go_sem,simprocAttr,c1,Bool.false_and])|(with_reducible (first|apply oC|apply oJ|exact oK|apply wA|apply wB|apply wC hX hC|apply wD hX hC|apply wE hX hC af|apply wF hX hC af|apply wG|apply wH|apply And.intro))|((with_reducible refine oD ?_ ?_);kernel_rfl)|((with_reducible (first|apply oE|apply oF));(iterate 3 exact rfl);all_goals (intro h;first|(exact absurd h (by decide))|((try simp only [go_sem,simprocAttr,c1,Bool.false_and] at h);(try with_reducible intro K hK);simp only [go_sem,simprocAttr,c1,Bool.false_and])))|((first|((with_reducible apply wL);exact rfl)|((with_reducible apply wM);exact rfl));all_goals (try ((with_reducible intro h);first|(exact absurd h (by decide))|(try simp only [go_sem,simprocAttr,c1,Bool.false_and] at h))))|omega|((first|(refine aF hX hC hP [(10000,4),(10001,5)] (II) rfl rfl rfl ?_ ?_ ?_ ?_ ?_ ?_ rfl rfl ?_ ?_;(focus (simp only [go_sem,simprocAttr,c1,Bool.false_and];done));(iterate 6 (focus (simp [go_sem,simprocAttr,c1,Bool.false_and];done)));simp only [go_sem,simprocAttr,c1,Bool.false_and,List.map_cons,List.map_nil])|(refine aF hX hC hP [(10000,4),(10001,5)] (IJ) rfl rfl rfl ?_ ?_ ?_ ?_ ?_ ?_ rfl rfl ?_ ?_;(focus (simp only [go_sem,simprocAttr,c1,Bool.false_and];done));(iterate 6 (focus (simp [go_sem,simprocAttr,c1,Bool.false_and];done)));simp only [go_sem,simprocAttr,c1,Bool.false_and,List.map_cons,List.map_nil]));try simp only [go_sem,simprocAttr,c1,Bool.false_and])|(intro h))
   |true=>
    (refine Spec.intro (C:=T.cfg [] []) (rs:= [.t 8]) (T.ai _ _) Tryz.func27 rfl rfl Tryz.ntmps27 Tryz.results27 (by simp [AObj.isNest]) (by simp [AObj.isNest]) (by kernel_rfl) ?_;intro X hX hP hC aG aH vals hA;refine ⟨_,by simp,hA, ?_⟩;have af:X.P.follows .mixedOrders=true:=(by rw [hP];exact T.mixed);clear aG aH)
    repeat' (first|((first|((with_reducible (first|apply oA|apply oB));exact rfl;intro K hK)|(refine hK _ ?_;clear hK K)|((with_reducible (first|apply oG|apply oH));iterate 3 exact rfl)|((with_reducible apply oI);(iterate 2 exact rfl);intro K hK)|(with_reducible (first|apply wI|apply wJ|apply wK)));try simp only [go_sem,simprocAttr,c1,Bool.true_and])|(with_reducible (first|apply oC|apply oJ|exact oK|apply wA|apply wB|apply wC hX hC|apply wD hX hC|apply wE hX hC af|apply wF hX hC af|apply wG|apply wH|apply And.intro))|((with_reducible refine oD ?_ ?_);kernel_rfl)|((with_reducible (first|apply oE|apply oF));(iterate 3 exact rfl);all_goals (intro h;first|(exact absurd h (by decide))|((try simp only [go_sem,simprocAttr,c1,Bool.true_and] at h);(try with_reducible intro K hK);simp only [go_sem,simprocAttr,c1,Bool.true_and])))|((first|((with_reducible apply wL);exact rfl)|((with_reducible apply wM);exact rfl));all_goals (try ((with_reducible intro h);first|(exact absurd h (by decide))|(try simp only [go_sem,simprocAttr,c1,Bool.true_and] at h))))|omega|((first|(refine aF hX hC hP [(10000,4),(10001,5)] (II) rfl rfl rfl ?_ ?_ ?_ ?_ ?_ ?_ rfl rfl ?_ ?_;(focus (simp only [go_sem,simprocAttr,c1,Bool.true_and];done));(iterate 6 (focus (simp [go_sem,simprocAttr,c1,Bool.true_and];done)));simp only [go_sem,simprocAttr,c1,Bool.true_and,List.map_cons,List.map_nil])|(refine aF hX hC hP [(10000,4),(10001,5)] (IJ) rfl rfl rfl ?_ ?_ ?_ ?_ ?_ ?_ rfl rfl ?_ ?_;(focus (simp only [go_sem,simprocAttr,c1,Bool.true_and];done));(iterate 6 (focus (simp [go_sem,simprocAttr,c1,Bool.true_and];done)));simp only [go_sem,simprocAttr,c1,Bool.true_and,List.map_cons,List.map_nil]));try simp only [go_sem,simprocAttr,c1,Bool.true_and])|(intro h))
def IK:Gr:=⟨4, [(0,1),(1,3),(0,2),(2,3)]⟩
def Kq:Pl:=⟨[0,1,2,3], [[0,2], [1], [3], []]⟩
theorem MK:(true=true)↔(b9 IK).1=0∧bp IK Kq:=⟨fun _=>⟨by decide,⟨rfl,by decide,by decide⟩⟩,fun _=>rfl⟩
theorem ML:Gl true IK Kq=([0,1,2,3], [0,2,1,3],0):=by
 unfold Gl
 rw [if_pos ⟨rfl,by decide⟩]
 rfl
theorem nq:Spec Tryz.prog 21 (Args []) [] (eB true) []:=by
 have Cw:=tX IK (by decide) Kq ⟨by decide,by decide,by decide⟩ true MK
 rw [ML] at Cw
 simp only at Cw
 have e1:IK.es.map rE= [[.sc (.int .i64 0), .sc (.int .i64 1)], [.sc (.int .i64 1), .sc (.int .i64 3)], [.sc (.int .i64 0), .sc (.int .i64 2)], [.sc (.int .i64 2), .sc (.int .i64 3)]]:=rfl
 have e2:Kq.ord.map rI= [[.sc (.int .i64 0)], [.sc (.int .i64 1)], [.sc (.int .i64 2)], [.sc (.int .i64 3)]]:=rfl
 have e3:vI Kq.outs= [[.sl 1 [[.sc (.int .i64 0)], [.sc (.int .i64 2)]]], [.sl 1 [[.sc (.int .i64 1)]]], [.sl 1 [[.sc (.int .i64 3)]]], [.sl 1 []]]:=rfl
 have e4:IK.n=4:=rfl
 have e5:xA [0,1,2,3] [0,2,1,3] 1 3=true:=by decide
 have e6:xA [0,1,2,3] [0,2,1,3] 1 2=false:=by decide
 (refine Spec.intro (C:=T.cfg [] []) (rs:= [.t 0]) (T.ai _ _) Tryz.func21 rfl rfl Tryz.ntmps21 Tryz.results21 (by simp [AObj.isNest]) (by simp [AObj.isNest]) (by kernel_rfl) ?_;intro X hX hP hC aG aH vals hA;refine ⟨_,by simp,hA, ?_⟩;have af:X.P.follows .mixedOrders=true:=(by rw [hP];exact T.mixed);clear aG aH)
 repeat' (first|((first|((with_reducible (first|apply oA|apply oB));exact rfl;intro K hK)|(refine hK _ ?_;clear hK K)|((with_reducible (first|apply oG|apply oH));iterate 3 exact rfl)|((with_reducible apply oI);(iterate 2 exact rfl);intro K hK)|(with_reducible (first|apply wI|apply wJ|apply wK)));try simp only [go_sem,simprocAttr,e1,e2,e3,e4,e5,e6,List.map_cons,List.map_nil,rI,decide_true])|(with_reducible (first|apply oC|apply oJ|exact oK|apply wA|apply wB|apply wC hX hC|apply wD hX hC|apply wE hX hC af|apply wF hX hC af|apply wG|apply wH|apply And.intro))|((with_reducible refine oD ?_ ?_);kernel_rfl)|((with_reducible (first|apply oE|apply oF));(iterate 3 exact rfl);all_goals (intro h;first|(exact absurd h (by decide))|((try simp only [go_sem,simprocAttr,e1,e2,e3,e4,e5,e6,List.map_cons,List.map_nil,rI,decide_true] at h);(try with_reducible intro K hK);simp only [go_sem,simprocAttr,e1,e2,e3,e4,e5,e6,List.map_cons,List.map_nil,rI,decide_true])))|((first|((with_reducible apply wL);exact rfl)|((with_reducible apply wM);exact rfl));all_goals (try ((with_reducible intro h);first|(exact absurd h (by decide))|(try simp only [go_sem,simprocAttr,e1,e2,e3,e4,e5,e6,List.map_cons,List.map_nil,rI,decide_true] at h))))|omega|((first|(refine bB hX hC hP (Cw) rfl rfl rfl ?_ ?_ rfl ?_;iterate 2 (focus (simp only [go_sem,simprocAttr,e1,e2,e3,e4,e5,e6,List.map_cons,List.map_nil,rI,decide_true];done)))|(refine bB hX hC hP (mZ [0,1,2,3] [0,1,2,3] (by decide)) rfl rfl rfl ?_ ?_ rfl ?_;iterate 2 (focus (simp only [go_sem,simprocAttr,e1,e2,e3,e4,e5,e6,List.map_cons,List.map_nil,rI,decide_true];done)))|(refine bB hX hC hP (mZ [0,2,1,3] [0,2,1,3] (by decide)) rfl rfl rfl ?_ ?_ rfl ?_;iterate 2 (focus (simp only [go_sem,simprocAttr,e1,e2,e3,e4,e5,e6,List.map_cons,List.map_nil,rI,decide_true];done)))|(refine bB hX hC hP (ua [0,1,2,3] [0,2,1,3] (by decide) (by decide) 1 3) rfl rfl rfl ?_ ?_ rfl ?_;iterate 2 (focus (simp only [go_sem,simprocAttr,e1,e2,e3,e4,e5,e6,List.map_cons,List.map_nil,rI,decide_true];done)))|(refine bB hX hC hP (ua [0,1,2,3] [0,2,1,3] (by decide) (by decide) 1 2) rfl rfl rfl ?_ ?_ rfl ?_;iterate 2 (focus (simp only [go_sem,simprocAttr,e1,e2,e3,e4,e5,e6,List.map_cons,List.map_nil,rI,decide_true];done))));try simp only [go_sem,simprocAttr,e1,e2,e3,e4,e5,e6,List.map_cons,List.map_nil,rI,decide_true])|(intro h))
end Go.Ab
end
section
namespace Go.Ab
open Go.Proofs
attribute [local congr] ACall.congr
set_option maxRecDepth 10000
set_option maxHeartbeats 16000000
theorem CO (g:Gr) (hl:g.es.length≤9223372036854775807) (p:Pl) (hp:o8 p) (b:Bool) (hr:b=true↔(b9 g).1=0∧bp g p):Spec Tryz.prog 20 (Args [eG g,ePl p]) [] (eB (decide ((bL b g p).2.1=0))) []:=by
 have hO:=yR g hl p hp b hr
 generalize bL b g p=R at hO
 (refine Spec.intro (C:=T.cfg [] []) (rs:= [.t 4]) (T.ai _ _) Tryz.func20 rfl rfl Tryz.ntmps20 Tryz.results20 (by simp [AObj.isNest]) (by simp [AObj.isNest]) (by kernel_rfl) ?_;intro X hX hP hC aG aH vals hA;refine ⟨_,by simp,hA, ?_⟩;have af:X.P.follows .mixedOrders=true:=(by rw [hP];exact T.mixed);clear aG aH)
 repeat' (first|((first|((with_reducible (first|apply oA|apply oB));exact rfl;intro K hK)|(refine hK _ ?_;clear hK K)|((with_reducible (first|apply oG|apply oH));iterate 3 exact rfl)|((with_reducible apply oI);(iterate 2 exact rfl);intro K hK)|(with_reducible (first|apply wI|apply wJ|apply wK)));try simp only [go_sem,simprocAttr])|(with_reducible (first|apply oC|apply oJ|exact oK|apply wA|apply wB|apply wC hX hC|apply wD hX hC|apply wE hX hC af|apply wF hX hC af|apply wG|apply wH|apply And.intro))|((with_reducible refine oD ?_ ?_);kernel_rfl)|((with_reducible (first|apply oE|apply oF));(iterate 3 exact rfl);all_goals (intro h;first|(exact absurd h (by decide))|((try simp only [go_sem,simprocAttr] at h);(try with_reducible intro K hK);simp only [go_sem,simprocAttr])))|((first|((with_reducible apply wL);exact rfl)|((with_reducible apply wM);exact rfl));all_goals (try ((with_reducible intro h);first|(exact absurd h (by decide))|(try simp only [go_sem,simprocAttr] at h))))|omega|((first|refine aa hX hC hP (hO) rfl rfl rfl (by simp only [go_sem,simprocAttr]) rfl ?_);try simp only [go_sem,simprocAttr])|(intro h))
end Go.Ab
end
section
namespace Go.Ab
open Go.Proofs
attribute [local congr] ACall.congr
set_option maxRecDepth 20000
set_option maxHeartbeats 16000000
end Go.Ab
end
section
namespace Go.Ab
open Go.Proofs
attribute [local congr] ACall.congr
set_option maxRecDepth 20000
set_option maxHeartbeats 8000000
theorem y6 (g:Gr) (hl:g.es.length≤1000) (p:Pl) (hp:o8 p) (b:Bool) (hr:b=true↔(b9 g).1=0∧bp g p):
 Spec Tryz.prog 29 (Args [eG g,ePl p]) [] (.tup [iT (GV b g p).1,eN (GV b g p).2]) []:=by
 have hO:=jE g hl p hp b hr
 have CZ:=nU g hl
 by_cases h0:(bL b g p).2.1=0
 rotate_left
 ·have hK:GV b g p=(rJ,1):=if_neg fun h=>h0 h.1.1
  have hb0:decide ((bL b g p).2.1=0)=false:=decide_eq_false h0
  rw [hK]
  (refine Spec.intro (C:=T.cfg [] []) (rs:= [.c 4 53, .t 5]) (T.ai _ _) Tryz.func29 rfl rfl Tryz.ntmps29 Tryz.results29 (by simp [AObj.isNest]) (by simp [AObj.isNest]) (by kernel_rfl) ?_;intro X hX hP hC aG aH vals hA;refine ⟨_,by simp,hA, ?_⟩;have af:X.P.follows .mixedOrders=true:=(by rw [hP];exact T.mixed);clear aG aH)
  repeat' (first|((first|((with_reducible (first|apply oA|apply oB));exact rfl;intro K hK)|(refine hK _ ?_;clear hK K)|((with_reducible (first|apply oG|apply oH));iterate 3 exact rfl)|((with_reducible apply oI);(iterate 2 exact rfl);intro K hK)|(with_reducible (first|apply wI|apply wJ|apply wK)));try simp only [go_sem,simprocAttr,hb0,iT,rJ,List.map_nil])|(with_reducible (first|apply oC|apply oJ|exact oK|apply wA|apply wB|apply wC hX hC|apply wD hX hC|apply wE hX hC af|apply wF hX hC af|apply wG|apply wH|apply And.intro))|((with_reducible refine oD ?_ ?_);kernel_rfl)|((with_reducible (first|apply oE|apply oF));(iterate 3 exact rfl);all_goals (intro h;first|(exact absurd h (by decide))|((try simp only [go_sem,simprocAttr,hb0,iT,rJ,List.map_nil] at h);(try with_reducible intro K hK);simp only [go_sem,simprocAttr,hb0,iT,rJ,List.map_nil])))|((first|((with_reducible apply wL);exact rfl)|((with_reducible apply wM);exact rfl));all_goals (try ((with_reducible intro h);first|(exact absurd h (by decide))|(try simp only [go_sem,simprocAttr,hb0,iT,rJ,List.map_nil] at h))))|omega|((first|refine aa hX hC hP (hO) rfl rfl rfl (by simp only [go_sem,simprocAttr,hb0,iT,rJ,List.map_nil]) rfl ?_);try simp only [go_sem,simprocAttr,hb0,iT,rJ,List.map_nil])|(intro h))
 obtain ⟨hrun,hR⟩:=p9 hr h0
 cases hI:kz g with
 |false=>
  have hK:GV b g p=(rJ,1):=if_neg fun h=>by rw [hI] at h;cases h.1.2
  rw [hR] at hO
  simp only at hO
  rw [hI] at CZ
  rw [hK]
  (refine Spec.intro (C:=T.cfg [] []) (rs:= [.c 4 53, .t 5]) (T.ai _ _) Tryz.func29 rfl rfl Tryz.ntmps29 Tryz.results29 (by simp [AObj.isNest]) (by simp [AObj.isNest]) (by kernel_rfl) ?_;intro X hX hP hC aG aH vals hA;refine ⟨_,by simp,hA, ?_⟩;have af:X.P.follows .mixedOrders=true:=(by rw [hP];exact T.mixed);clear aG aH)
  repeat' (first|((first|((with_reducible (first|apply oA|apply oB));exact rfl;intro K hK)|(refine hK _ ?_;clear hK K)|((with_reducible (first|apply oG|apply oH));iterate 3 exact rfl)|((with_reducible apply oI);(iterate 2 exact rfl);intro K hK)|(with_reducible (first|apply wI|apply wJ|apply wK)));try simp only [go_sem,simprocAttr,iT,rJ,List.map_nil])|(with_reducible (first|apply oC|apply oJ|exact oK|apply wA|apply wB|apply wC hX hC|apply wD hX hC|apply wE hX hC af|apply wF hX hC af|apply wG|apply wH|apply And.intro))|((with_reducible refine oD ?_ ?_);kernel_rfl)|((with_reducible (first|apply oE|apply oF));(iterate 3 exact rfl);all_goals (intro h;first|(exact absurd h (by decide))|((try simp only [go_sem,simprocAttr,iT,rJ,List.map_nil] at h);(try with_reducible intro K hK);simp only [go_sem,simprocAttr,iT,rJ,List.map_nil])))|((first|((with_reducible apply wL);exact rfl)|((with_reducible apply wM);exact rfl));all_goals (try ((with_reducible intro h);first|(exact absurd h (by decide))|(try simp only [go_sem,simprocAttr,iT,rJ,List.map_nil] at h))))|omega|((first|refine aa hX hC hP (hO) rfl rfl rfl (by simp only [go_sem,simprocAttr,iT,rJ,List.map_nil]) rfl ?_|refine aa hX hC hP (CZ) rfl rfl rfl (by simp only [go_sem,simprocAttr,iT,rJ,List.map_nil]) rfl ?_);try simp only [go_sem,simprocAttr,iT,rJ,List.map_nil])|(intro h))
 |true=>
  by_cases hm:0<g.es.length
  ·have hK:GV b g p=(GU g p,0):=if_pos ⟨⟨h0,hI⟩,hm⟩
   rw [hK]
   exact CI g p hp hrun hI hm b hr
  ·have hK:GV b g p=(rJ,1):=if_neg fun h=>hm h.2
   have ak:decide ((g.es.length:Int)=0)=true:=decide_eq_true (by omega)
   rw [hR] at hO
   simp only at hO
   rw [hI] at CZ
   rw [hK]
   (refine Spec.intro (C:=T.cfg [] []) (rs:= [.c 4 53, .t 5]) (T.ai _ _) Tryz.func29 rfl rfl Tryz.ntmps29 Tryz.results29 (by simp [AObj.isNest]) (by simp [AObj.isNest]) (by kernel_rfl) ?_;intro X hX hP hC aG aH vals hA;refine ⟨_,by simp,hA, ?_⟩;have af:X.P.follows .mixedOrders=true:=(by rw [hP];exact T.mixed);clear aG aH)
   repeat' (first|((first|((with_reducible (first|apply oA|apply oB));exact rfl;intro K hK)|(refine hK _ ?_;clear hK K)|((with_reducible (first|apply oG|apply oH));iterate 3 exact rfl)|((with_reducible apply oI);(iterate 2 exact rfl);intro K hK)|(with_reducible (first|apply wI|apply wJ|apply wK)));try simp only [go_sem,simprocAttr,ak,iT,rJ,List.map_nil])|(with_reducible (first|apply oC|apply oJ|exact oK|apply wA|apply wB|apply wC hX hC|apply wD hX hC|apply wE hX hC af|apply wF hX hC af|apply wG|apply wH|apply And.intro))|((with_reducible refine oD ?_ ?_);kernel_rfl)|((with_reducible (first|apply oE|apply oF));(iterate 3 exact rfl);all_goals (intro h;first|(exact absurd h (by decide))|((try simp only [go_sem,simprocAttr,ak,iT,rJ,List.map_nil] at h);(try with_reducible intro K hK);simp only [go_sem,simprocAttr,ak,iT,rJ,List.map_nil])))|((first|((with_reducible apply wL);exact rfl)|((with_reducible apply wM);exact rfl));all_goals (try ((with_reducible intro h);first|(exact absurd h (by decide))|(try simp only [go_sem,simprocAttr,ak,iT,rJ,List.map_nil] at h))))|omega|((first|refine aa hX hC hP (hO) rfl rfl rfl (by simp only [go_sem,simprocAttr,ak,iT,rJ,List.map_nil]) rfl ?_|refine aa hX hC hP (CZ) rfl rfl rfl (by simp only [go_sem,simprocAttr,ak,iT,rJ,List.map_nil]) rfl ?_);try simp only [go_sem,simprocAttr,ak,iT,rJ,List.map_nil])|(intro h))
end Go.Ab
end
section
namespace Go.Ab
open Go.Proofs
attribute [local congr] ACall.congr
set_option maxRecDepth 20000
set_option maxHeartbeats 8000000
def E7 (f:Fc) (k:Nat):List Edge:=(List.range k).map fun i:Nat=>(f.L.getD i 0,f.R.getD i 0)
theorem Gv {f:Fc} {k:Nat} :(E7 f k).length=k:=by simp [E7]
theorem E8 {f:Fc} {k:Nat} :(E7 f (k+1)).map rE=(E7 f k).map rE++ [rE (f.L.getD k 0,f.R.getD k 0)]:=by simp [E7,List.range_succ]
theorem y7 (f:Fc) (h1:f.L.length≤100000) (h2:f.R.length=f.L.length):Spec Tryz.prog 30 (Args [iT f]) [] (eG ⟨f.lo.length,E7 f f.L.length⟩) []:=by
 have hmin:min (f.L.length:Int) (f.R.length:Int)=f.L.length:=by rw [h2];simp
 (refine Spec.intro (C:=T.cfg [] []) (rs:= [.c 2 24]) (T.ai _ _) Tryz.func30 rfl rfl Tryz.ntmps30 Tryz.results30 (by simp [AObj.isNest]) (by simp [AObj.isNest]) (by kernel_rfl) ?_;intro X hX hP hC aG aH vals hA;refine ⟨_,by simp,hA, ?_⟩;have af:X.P.follows .mixedOrders=true:=(by rw [hP];exact T.mixed);clear aG aH)
 repeat' (first|((first|((with_reducible (first|apply oA|apply oB));exact rfl;intro K hK)|(refine hK _ ?_;clear hK K)|((with_reducible (first|apply oG|apply oH));iterate 3 exact rfl)|((with_reducible apply oI);(iterate 2 exact rfl);intro K hK)|(with_reducible (first|apply wI|apply wJ|apply wK)));try simp only [go_sem,simprocAttr,iT,hmin])|(show dK _ (.seq (.region 2 _ _) _) _ _;(refine sQ hX 3 1 200 (.tip 73 2 []) rfl rfl rfl (by simp only [go_sem,simprocAttr,iT,hmin]) (by decide) (by simp [go_sem,simprocAttr,iT,hmin]) ⟨73,2,by decide, .inr rfl⟩ ?_;simp only [LA.app,ASt.put,ASt.kill,subT,rmk,putM,rml,kl,AV.sub,AV.subs,AObj.sub,List.set_cons_zero,List.set_cons_succ,go_sem,simprocAttr,iT,hmin]))|(with_reducible (first|apply oC|apply oJ|exact oK|apply wA|apply wB|apply wC hX hC|apply wD hX hC|apply wE hX hC af|apply wF hX hC af|apply wG|apply wH|apply And.intro))|((with_reducible refine oD ?_ ?_);kernel_rfl)|((with_reducible (first|apply oE|apply oF));(iterate 3 exact rfl);all_goals (intro h;first|(exact absurd h (by decide))|((try simp only [go_sem,simprocAttr,iT,hmin] at h);(try with_reducible intro K hK);simp only [go_sem,simprocAttr,iT,hmin])))|((first|((with_reducible apply wL);exact rfl)|((with_reducible apply wM);exact rfl));all_goals (try ((with_reducible intro h);first|(exact absurd h (by decide))|(try simp only [go_sem,simprocAttr,iT,hmin] at h))))|omega|(intro h))
 refine aj (fun k:Nat=>k≤f.L.length) (fun k=>⟨[(1, .ptr 1 0),(2, .ptr 2 0),(3, .ptr 3 0),(15,eN f.L.length),(16,eN k)], [(1, .box [.d (sI f.L), .d (sI f.R), .d (sI f.lo), .d (sI f.hi)]),(2, .box [eN 0, .nil 73]),(3, .box [eN f.lo.length, .ref 200]),(200, .tip 73 2 ((E7 f k).map rE))]⟩) (fun k=>f.L.length - k) 0 (by omega) ?_ ?_
 ·refine Le.of ?_ ?_<;>simp [go_sem,simprocAttr,iT,hmin,E7]
 rintro k hk
 rcases Nat.lt_or_ge k f.L.length with hlt|hge
 ·have hb:decide ((k:Int)<(f.L.length:Int))=true:=decide_eq_true (by omega)
  have cO:=E8 (f:=f) (k:=k)
  have D9:=Gv (f:=f) (k:=k)
  generalize E7 f k=G at cO D9
  repeat' (first|((first|((with_reducible (first|apply oA|apply oB));exact rfl;intro K hK)|(refine hK _ ?_;clear hK K)|((with_reducible (first|apply oG|apply oH));iterate 3 exact rfl)|((with_reducible apply oI);(iterate 2 exact rfl);intro K hK)|(with_reducible (first|apply wI|apply wJ|apply wK)));try simp only [go_sem,simprocAttr,hb,D9])|(show dK _ (.region 6 _ _) _ _;(refine iD hX 3 1 33 200 rfl rfl rfl (by first|exact .inl rfl|exact .inr rfl) (by decide) (by decide) ?_;simp only [LA.app,ASt.put,ASt.kill,subT,rmk,putM,rml,kl,AV.sub,AV.subs,AObj.sub,List.set_cons_zero,List.set_cons_succ,go_sem,simprocAttr,hb,D9]))|(with_reducible (first|apply oC|apply oJ|exact oK|apply wA|apply wB|apply wC hX hC|apply wD hX hC|apply wE hX hC af|apply wF hX hC af|apply wG|apply wH|apply And.intro))|((with_reducible refine oD ?_ ?_);kernel_rfl)|((with_reducible (first|apply oE|apply oF));(iterate 3 exact rfl);all_goals (intro h;first|(exact absurd h (by decide))|((try simp only [go_sem,simprocAttr,hb,D9] at h);(try with_reducible intro K hK);simp only [go_sem,simprocAttr,hb,D9])))|((first|((with_reducible apply wL);exact rfl)|((with_reducible apply wM);exact rfl));all_goals (try ((with_reducible intro h);first|(exact absurd h (by decide))|(try simp only [go_sem,simprocAttr,hb,D9] at h))))|omega|(intro h))
  refine ⟨k+1,by omega, ?_,by omega⟩
  rw [cO]
  refine Le.of ?_ ?_<;>simp [go_sem,simprocAttr,hb,D9,rE]
 ·have hb:decide ((k:Int)<(f.L.length:Int))=false:=decide_eq_false (by omega)
  obtain rfl:k=f.L.length:=by omega
  repeat' (first|((first|((with_reducible (first|apply oA|apply oB));exact rfl;intro K hK)|(refine hK _ ?_;clear hK K)|((with_reducible (first|apply oG|apply oH));iterate 3 exact rfl)|((with_reducible apply oI);(iterate 2 exact rfl);intro K hK)|(with_reducible (first|apply wI|apply wJ|apply wK)));try simp only [go_sem,simprocAttr,hb])|(with_reducible (first|apply oC|apply oJ|exact oK|apply wA|apply wB|apply wC hX hC|apply wD hX hC|apply wE hX hC af|apply wF hX hC af|apply wG|apply wH|apply And.intro))|((with_reducible refine oD ?_ ?_);kernel_rfl)|((with_reducible (first|apply oE|apply oF));(iterate 3 exact rfl);all_goals (intro h;first|(exact absurd h (by decide))|((try simp only [go_sem,simprocAttr,hb] at h);(try with_reducible intro K hK);simp only [go_sem,simprocAttr,hb])))|((first|((with_reducible apply wL);exact rfl)|((with_reducible apply wM);exact rfl));all_goals (try ((with_reducible intro h);first|(exact absurd h (by decide))|(try simp only [go_sem,simprocAttr,hb] at h))))|omega|(intro h))
def y8 (b:Bool) (g:Gr) (p:Pl):Bool:= !qQ g p&&kz g&&decide ((bL b g p).2.1=0)&&decide (0<(g.es.length:Int))&&decide ((g.es.length:Int)≤60)
theorem xB (g:Gr) (hl:g.es.length≤9223372036854775807) (p:Pl) (hp:A7 p) (b:Bool) (hr:b=true↔(b9 g).1=0∧bp g p):Spec Tryz.prog 28 (Args [eG g,ePl p]) [] (eB (y8 b g p)) []:=by
 have hG:=xl g p hl hp
 cases hB:qQ g p with
 |true=>
  rw [hB] at hG
  have ha:y8 b g p=false:=by unfold y8;rw [hB];rfl
  rw [ha]
  (refine Spec.intro (C:=T.cfg [] []) (rs:= [.t 4]) (T.ai _ _) Tryz.func28 rfl rfl Tryz.ntmps28 Tryz.results28 (by simp [AObj.isNest]) (by simp [AObj.isNest]) (by kernel_rfl) ?_;intro X hX hP hC aG aH vals hA;refine ⟨_,by simp,hA, ?_⟩;have af:X.P.follows .mixedOrders=true:=(by rw [hP];exact T.mixed);clear aG aH)
  repeat' (first|((first|((with_reducible (first|apply oA|apply oB));exact rfl;intro K hK)|(refine hK _ ?_;clear hK K)|((with_reducible (first|apply oG|apply oH));iterate 3 exact rfl)|((with_reducible apply oI);(iterate 2 exact rfl);intro K hK)|(with_reducible (first|apply wI|apply wJ|apply wK)));try simp only [go_sem,simprocAttr])|(with_reducible (first|apply oC|apply oJ|exact oK|apply wA|apply wB|apply wC hX hC|apply wD hX hC|apply wE hX hC af|apply wF hX hC af|apply wG|apply wH|apply And.intro))|((with_reducible refine oD ?_ ?_);kernel_rfl)|((with_reducible (first|apply oE|apply oF));(iterate 3 exact rfl);all_goals (intro h;first|(exact absurd h (by decide))|((try simp only [go_sem,simprocAttr] at h);(try with_reducible intro K hK);simp only [go_sem,simprocAttr])))|((first|((with_reducible apply wL);exact rfl)|((with_reducible apply wM);exact rfl));all_goals (try ((with_reducible intro h);first|(exact absurd h (by decide))|(try simp only [go_sem,simprocAttr] at h))))|omega|((first|refine aa hX hC hP (hG) rfl rfl rfl (by simp only [go_sem,simprocAttr]) rfl ?_);try simp only [go_sem,simprocAttr])|(intro h))
 |false=>
  rw [hB] at hG
  have hI:=Aa g (by have:=(A6 hB).1;omega)
  have CB:=CO g hl p (tN hB) b hr
  have ha:y8 b g p=(kz g&&decide ((bL b g p).2.1=0)&&decide (0<(g.es.length:Int))&&decide ((g.es.length:Int)≤60)):=by unfold y8;rw [hB];rfl
  rw [ha]
  cases hi:kz g with
  |false=>
   rw [hi] at hI
   (refine Spec.intro (C:=T.cfg [] []) (rs:= [.t 4]) (T.ai _ _) Tryz.func28 rfl rfl Tryz.ntmps28 Tryz.results28 (by simp [AObj.isNest]) (by simp [AObj.isNest]) (by kernel_rfl) ?_;intro X hX hP hC aG aH vals hA;refine ⟨_,by simp,hA, ?_⟩;have af:X.P.follows .mixedOrders=true:=(by rw [hP];exact T.mixed);clear aG aH)
   repeat' (first|((first|((with_reducible (first|apply oA|apply oB));exact rfl;intro K hK)|(refine hK _ ?_;clear hK K)|((with_reducible (first|apply oG|apply oH));iterate 3 exact rfl)|((with_reducible apply oI);(iterate 2 exact rfl);intro K hK)|(with_reducible (first|apply wI|apply wJ|apply wK)));try simp only [go_sem,simprocAttr,Bool.false_and])|(with_reducible (first|apply oC|apply oJ|exact oK|apply wA|apply wB|apply wC hX hC|apply wD hX hC|apply wE hX hC af|apply wF hX hC af|apply wG|apply wH|apply And.intro))|((with_reducible refine oD ?_ ?_);kernel_rfl)|((with_reducible (first|apply oE|apply oF));(iterate 3 exact rfl);all_goals (intro h;first|(exact absurd h (by decide))|((try simp only [go_sem,simprocAttr,Bool.false_and] at h);(try with_reducible intro K hK);simp only [go_sem,simprocAttr,Bool.false_and])))|((first|((with_reducible apply wL);exact rfl)|((with_reducible apply wM);exact rfl));all_goals (try ((with_reducible intro h);first|(exact absurd h (by decide))|(try simp only [go_sem,simprocAttr,Bool.false_and] at h))))|omega|((first|refine aa hX hC hP (hG) rfl rfl rfl (by simp only [go_sem,simprocAttr,Bool.false_and]) rfl ?_|refine aa hX hC hP (hI) rfl rfl rfl (by simp only [go_sem,simprocAttr,Bool.false_and]) rfl ?_);try simp only [go_sem,simprocAttr,Bool.false_and])|(intro h))
  |true=>
   rw [hi] at hI
   cases hd:decide ((bL b g p).2.1=0) with
   |false=>
    rw [hd] at CB
    (refine Spec.intro (C:=T.cfg [] []) (rs:= [.t 4]) (T.ai _ _) Tryz.func28 rfl rfl Tryz.ntmps28 Tryz.results28 (by simp [AObj.isNest]) (by simp [AObj.isNest]) (by kernel_rfl) ?_;intro X hX hP hC aG aH vals hA;refine ⟨_,by simp,hA, ?_⟩;have af:X.P.follows .mixedOrders=true:=(by rw [hP];exact T.mixed);clear aG aH)
    repeat' (first|((first|((with_reducible (first|apply oA|apply oB));exact rfl;intro K hK)|(refine hK _ ?_;clear hK K)|((with_reducible (first|apply oG|apply oH));iterate 3 exact rfl)|((with_reducible apply oI);(iterate 2 exact rfl);intro K hK)|(with_reducible (first|apply wI|apply wJ|apply wK)));try simp only [go_sem,simprocAttr,Bool.false_and,Bool.true_and])|(with_reducible (first|apply oC|apply oJ|exact oK|apply wA|apply wB|apply wC hX hC|apply wD hX hC|apply wE hX hC af|apply wF hX hC af|apply wG|apply wH|apply And.intro))|((with_reducible refine oD ?_ ?_);kernel_rfl)|((with_reducible (first|apply oE|apply oF));(iterate 3 exact rfl);all_goals (intro h;first|(exact absurd h (by decide))|((try simp only [go_sem,simprocAttr,Bool.false_and,Bool.true_and] at h);(try with_reducible intro K hK);simp only [go_sem,simprocAttr,Bool.false_and,Bool.true_and])))|((first|((with_reducible apply wL);exact rfl)|((with_reducible apply wM);exact rfl));all_goals (try ((with_reducible intro h);first|(exact absurd h (by decide))|(try simp only [go_sem,simprocAttr,Bool.false_and,Bool.true_and] at h))))|omega|((first|refine aa hX hC hP (hG) rfl rfl rfl (by simp only [go_sem,simprocAttr,Bool.false_and,Bool.true_and]) rfl ?_|refine aa hX hC hP (hI) rfl rfl rfl (by simp only [go_sem,simprocAttr,Bool.false_and,Bool.true_and]) rfl ?_|refine aa hX hC hP (CB) rfl rfl rfl (by simp only [go_sem,simprocAttr,Bool.false_and,Bool.true_and]) rfl ?_);try simp only [go_sem,simprocAttr,Bool.false_and,Bool.true_and])|(intro h))
   |true=>
    rw [hd] at CB
    (refine Spec.intro (C:=T.cfg [] []) (rs:= [.t 4]) (T.ai _ _) Tryz.func28 rfl rfl Tryz.ntmps28 Tryz.results28 (by simp [AObj.isNest]) (by simp [AObj.isNest]) (by kernel_rfl) ?_;intro X hX hP hC aG aH vals hA;refine ⟨_,by simp,hA, ?_⟩;have af:X.P.follows .mixedOrders=true:=(by rw [hP];exact T.mixed);clear aG aH)
    repeat' (first|((first|((with_reducible (first|apply oA|apply oB));exact rfl;intro K hK)|(refine hK _ ?_;clear hK K)|((with_reducible (first|apply oG|apply oH));iterate 3 exact rfl)|((with_reducible apply oI);(iterate 2 exact rfl);intro K hK)|(with_reducible (first|apply wI|apply wJ|apply wK)));try simp only [go_sem,simprocAttr,Bool.false_and,Bool.true_and])|(with_reducible (first|apply oC|apply oJ|exact oK|apply wA|apply wB|apply wC hX hC|apply wD hX hC|apply wE hX hC af|apply wF hX hC af|apply wG|apply wH|apply And.intro))|((with_reducible refine oD ?_ ?_);kernel_rfl)|((with_reducible (first|apply oE|apply oF));(iterate 3 exact rfl);all_goals (intro h;first|(exact absurd h (by decide))|((try simp only [go_sem,simprocAttr,Bool.false_and,Bool.true_and] at h);(try with_reducible intro K hK);simp only [go_sem,simprocAttr,Bool.false_and,Bool.true_and])))|((first|((with_reducible apply wL);exact rfl)|((with_reducible apply wM);exact rfl));all_goals (try ((with_reducible intro h);first|(exact absurd h (by decide))|(try simp only [go_sem,simprocAttr,Bool.false_and,Bool.true_and] at h))))|omega|((first|refine aa hX hC hP (hG) rfl rfl rfl (by simp only [go_sem,simprocAttr,Bool.false_and,Bool.true_and]) rfl ?_|refine aa hX hC hP (hI) rfl rfl rfl (by simp only [go_sem,simprocAttr,Bool.false_and,Bool.true_and]) rfl ?_|refine aa hX hC hP (CB) rfl rfl rfl (by simp only [go_sem,simprocAttr,Bool.false_and,Bool.true_and]) rfl ?_);try simp only [go_sem,simprocAttr,Bool.false_and,Bool.true_and])|(intro h))
    all_goals (simp [*];omega)
theorem Ig {b:Bool} {g:Gr} {p:Pl} (hr:b=true↔(b9 g).1=0∧bp g p) (h:y8 b g p=true):qQ g p=false∧kz g=true∧bA g p∧0<g.es.length∧g.es.length≤60:=by
 simp only [y8,Bool.and_eq_true,Bool.not_eq_true',decide_eq_true_eq] at h
 exact ⟨h.1.1.1.1,h.1.1.1.2,(p9 hr h.1.1.2).1,by omega,by omega⟩
theorem Ih {b:Bool} {g:Gr} {p:Pl} (hr:b=true↔(b9 g).1=0∧bp g p) (hrun:bA g p) (hI:kz g=true) (h0:0<g.es.length):GV b g p=(⟨arr (Lf g p) g.es.length,arr (Rf g p) g.es.length,Gm g p,IF g p⟩,0):=by
 have:GV b g p=(GU g p,0):=if_pos ⟨⟨by rw [n0 hr hrun],hI⟩,h0⟩
 rw [this,H9 hrun hI]
theorem Gw {g:Gr} {p:Pl} :(⟨((Gm g p).length:Nat),E7 ⟨arr (Lf g p) g.es.length,arr (Rf g p) g.es.length,Gm g p,IF g p⟩ (arr (Lf g p) g.es.length).length⟩:Gr)=y4 g p:=by
 unfold y4 E7
 rw [Bn,dw]
 congr 1
 refine List.map_congr_left fun i hi=> ?_
 have hi:=List.mem_range.1 hi
 rw [qk hi,qk hi]
def Qg:Gr:=⟨4, [(0,1),(1,3),(0,2),(2,3)]⟩
def Qh:Pl:=⟨[0,1,2,3], [[0,2], [1], [3], []]⟩
end Go.Ab
end
section
namespace Go.Ab
open Go.Proofs
attribute [local congr] ACall.congr
set_option maxRecDepth 20000
set_option maxHeartbeats 32000000
theorem E9 {g:Gr} {p:Pl} (h:bA g p):bF (·.2) g= [az p 0]:=by
 have hn:=aL (au h.1)
 have h0:=aI h.2.1 (k:=0) (by omega)
 have hs:=cJ h
 have hall:∀y∈bF (·.2) g,y=az p 0:=fun y hy=>by
  obtain ⟨h1,h2⟩:=iS.1 hy
  exact gl h.1 h1 h0 h2 hs
 have hin:az p 0∈bF (·.2) g:=iS.2 ⟨h0,hs⟩
 have hl:=HY nV hall
 match hb:bF (·.2) g,hin,hall,hl with
 | [],hin,_,_=>cases hin
 | [y],_,hall,_=>rw [hall y (by simp)]
 |y::z::l,_,_,hl=>simp at hl
theorem Gx {l:List Int} (h:l≠ []):∃u e,l=u++ [e]∧l.getD (l.length - 1) 0=e:=by
 refine ⟨l.dropLast,l.getLast h,(List.dropLast_concat_getLast h).symm, ?_⟩
 have hp:=List.length_pos_iff.2 h
 rw [List.getD_eq_getElem?_getD,List.getElem?_eq_getElem (by omega),Option.getD_some,List.getLast_eq_getElem]
theorem CP {g:Gr} {p:Pl} (h:bA g p) (hI:kz g=true) (h0:0<g.es.length) (KP:g.es.length≤60) {a b:Nat} (ha:a<g.n.toNat) (hb:b<g.n.toNat) (hl:p.outs.getD a []≠ []) (hm':p.outs.getD b []≠ [])
 (hab:uE ((zm g).getD a 0) b=false) (hba:uE ((zm g).getD b 0) a=false):
 ∃e f:Nat,(p.outs.getD a []).getD ((p.outs.getD a []).length - 1) 0=e∧e<g.es.length∧(p.outs.getD b []).getD 0 0=f∧f<g.es.length∧
  (decide ((cI g p false g.n.toNat).getD a 0<(cI g p false g.n.toNat).getD b 0)&&decide ((cI g p true g.n.toNat).getD b 0<(cI g p true g.n.toNat).getD a 0))=uE ((zm (y4 g p)).getD (Rf g p e).toNat 0) (Lf g p f):=by
 have hm:=au h.1
 have hm2:=Br h hI h0 KP
 have hn:=aL hm
 have ga:ji g (a:Int):=⟨by omega,by omega⟩
 have gb:ji g (b:Int):=⟨by omega,by omega⟩
 have e1:=xx (P:=aZ g p) (A:=(aZ g p).tl) (B:=(aZ g p).hd) hm rfl (fun _ _=>rfl) (fun _ _=>rfl) (x:=(a:Int)) (y:=(b:Int)) ga gb
 have e2:=xx (P:=aZ g p) (A:=(aZ g p).tl) (B:=(aZ g p).hd) hm rfl (fun _ _=>rfl) (fun _ _=>rfl) (x:=(b:Int)) (y:=(a:Int)) gb ga
 rw [← xw,Int.toNat_natCast,hab] at e1
 rw [← xw,Int.toNat_natCast,hba] at e2
 have n1:¬(aZ g p).ku a b:=fun hc=>by have:=e1.2 hc;cases this
 have n2:¬(aZ g p).ku b a:=fun hc=>by have:=e2.2 hc;cases this
 have hs:=Au h hI ga gb n1 n2
 obtain ⟨u,e,e3,e4⟩:=Gx hl
 obtain ⟨f,v,e5⟩:=dX hm'
 have pa:=h.2.1.2.2 a ha
 have pb:=h.2.1.2.2 b hb
 have re:=(fR (pa.mem_iff.1 (show e∈p.outs.getD a [] by rw [e3];simp))).1
 have rf:=(fR (pb.mem_iff.1 (show f∈p.outs.getD b [] by rw [e5];simp))).1
 have oa:(aZ g p).outs a=p.outs.getD a []:=by
  show (if ji g (a:Int) then bt p a else [])=_
  rw [if_pos ga];unfold bt;rw [Int.toNat_natCast]
 have ob:(aZ g p).outs b=p.outs.getD b []:=by
  show (if ji g (b:Int) then bt p b else [])=_
  rw [if_pos gb];unfold bt;rw [Int.toNat_natCast]
 have MM:(aZ g p).F2 (Lf g p) (Rf g p) a b↔(aZ g p).Lp (Lf g p) (Rf g p) (Rf g p e) (Lf g p f):=by
  constructor
  ·rintro ⟨u',e',f',v',h1,h2,h3⟩
   rw [oa,e3] at h1
   rw [ob,e5] at h2
   obtain ⟨_,h4⟩:=List.append_inj' h1 rfl
   cases h4
   cases h2
   exact h3
  ·intro h3
   exact ⟨u,e,f,v,by rw [oa,e3],by rw [ob,e5],h3⟩
 have hN:(y4 g p).n=(cN g p:Int)+1:=rfl
 have rr:=EX h hI (e:=e) re
 have rl:=GX h hI (e:=f) rf
 have e6:=xx (P:=aZ g p) (A:=Lf g p) (B:=Rf g p) hm2 xz (fun j hj=>Ic hj) (fun j hj=>Ie hj) (x:=Rf g p e) (y:=Lf g p f) (by omega) (by omega)
 refine ⟨e.toNat,f.toNat,by rw [e4];omega,by omega,by rw [e5];show f=_;omega,by omega, ?_⟩
 rw [show ((e.toNat:Nat):Int)=e by omega,show ((f.toNat:Nat):Int)=f by omega,Bool.eq_iff_iff,e6, ← MM,hs,Bool.and_eq_true,decide_eq_true_eq,decide_eq_true_eq]
 rfl
theorem uc (g:Gr) (p:Pl) (hl:g.es.length≤9223372036854775807) (hp:A7 p):Spec Tryz.prog 6 (Args [eG g,ePl p]) [] (eB true) []:=by
 obtain ⟨b,hr⟩:=Pb g p
 have Kr:=xB g hl p hp b hr
 (refine Spec.intro (C:=T.cfg [] []) (rs:= [.t 4]) (T.ai _ _) Tryz.func6 rfl rfl Tryz.ntmps6 Tryz.results6 (by simp [AObj.isNest]) (by simp [AObj.isNest]) (by kernel_rfl) ?_;intro X hX hP hC aG aH vals hA;refine ⟨_,by simp,hA, ?_⟩;have af:X.P.follows .mixedOrders=true:=(by rw [hP];exact T.mixed);clear aG aH)
 cases ha:y8 b g p with
 |false=>
  rw [ha] at Kr
  repeat' (first|((first|((with_reducible (first|apply oA|apply oB));exact rfl;intro K hK)|(refine hK _ ?_;clear hK K)|((with_reducible (first|apply oG|apply oH));iterate 3 exact rfl)|((with_reducible apply oI);(iterate 2 exact rfl);intro K hK)|(with_reducible (first|apply wI|apply wJ|apply wK)));try simp only [go_sem,simprocAttr])|(with_reducible (first|apply oC|apply oJ|exact oK|apply wA|apply wB|apply wC hX hC|apply wD hX hC|apply wE hX hC af|apply wF hX hC af|apply wG|apply wH|apply And.intro))|((with_reducible refine oD ?_ ?_);kernel_rfl)|((with_reducible (first|apply oE|apply oF));(iterate 3 exact rfl);all_goals (intro h;first|(exact absurd h (by decide))|((try simp only [go_sem,simprocAttr] at h);(try with_reducible intro K hK);simp only [go_sem,simprocAttr])))|((first|((with_reducible apply wL);exact rfl)|((with_reducible apply wM);exact rfl));all_goals (try ((with_reducible intro h);first|(exact absurd h (by decide))|(try simp only [go_sem,simprocAttr] at h))))|omega|((first|refine aa hX hC hP (nq) rfl rfl rfl (by simp only [go_sem,simprocAttr]) rfl ?_|refine aa hX hC hP (Kr) rfl rfl rfl (by simp only [go_sem,simprocAttr]) rfl ?_);try simp only [go_sem,simprocAttr])|(intro h))
 |true=>
 rw [ha] at Kr
 obtain ⟨hB,hI,hrun,h0,KP⟩:=Ig hr ha
 have hm:=au hrun.1
 have hn:=aL hm
 have hm2:=Br hrun hI h0 KP
 have hD:=y6 g (by omega) p (tN hB) b hr
 rw [Ih hr hrun hI h0] at hD
 simp only at hD
 have ND:=y7 ⟨arr (Lf g p) g.es.length,arr (Rf g p) g.es.length,Gm g p,IF g p⟩ (by simp only [dw];omega) (by simp only [dw])
 simp only [Gw] at ND
 have NF:=vG g hl
 have Pu:=vG (y4 g p) (by rw [xz];omega)
 have Cw:=tX g (by omega) p (tN hB) b hr
 have qw:Gl b g p=(cI g p false g.n.toNat,cI g p true g.n.toNat,0):=if_pos ⟨by rw [n0 hr hrun],hI⟩
 rw [qw] at Cw
 simp only at Cw
 have MN:=cg g true (by omega) (by omega)
 have Pv:bF (j4 (!true)) g= [az p 0]:=E9 hrun
 rw [Pv] at MN
 have hkey:=fun (a c:Nat)=>CP (a:=a) (b:=c) hrun hI h0 KP
 have hx:(cI g p false g.n.toNat).length=g.n.toNat:=kf
 have hy:(cI g p true g.n.toNat).length=g.n.toNat:=kf
 have eC:=xy hm
 have ud:=xy hm2
 have Ar:=fun x=>EZ (x:=x) hm
 have MO:=fun x=>EZ (x:=x) hm2
 have NG:=fun (i:Nat) (hi:i<g.es.length)=>EX hrun hI (e:=(i:Int)) (by omega)
 have NH:=fun (i:Nat) (hi:i<g.es.length)=>qk (f:=Lf g p) hi
 have GL:=fun (i:Nat) (hi:i<g.es.length)=>qk (f:=Rf g p) hi
 have uk:(arr (Lf g p) g.es.length).length=g.es.length:=dw
 have rK:(arr (Rf g p) g.es.length).length=g.es.length:=dw
 have hlo:=Bn (g:=g) (p:=p)
 have NI:(y4 g p).n.toNat=cN g p+1:=by show ((cN g p:Int)+1).toNat=_;omega
 rw [NI] at ud
 clear NI
 have uB:p.outs.length=g.n.toNat:=hrun.2.1.1
 have fG:∀x,(p.outs.getD x []).length≤1000:=fun x=>by
  by_cases hx:x<g.n.toNat
  ·have:=(hrun.2.1.2.2 x hx).length_eq
   have:=tB (g:=g) (x:=(x:Int))
   omega
  ·rw [List.getD_eq_getElem?_getD,List.getElem?_eq_none (by omega)];simp
 obtain ⟨N,hN⟩:∃N:Nat,g.n=N:=⟨g.n.toNat,by omega⟩
 have Pw:g.n.toNat=N:=by omega
 have uA:eG g= .agg [eN N, .d (sE g.es)]:=by rw [eG,hN]
 rw [Pw] at Cw hkey hx hy eC uB
 rw [uA] at Kr Cw hD NF MN
 have KN:∀i,i<g.es.length→∃r:Nat,(arr (Rf g p) g.es.length).getD i 0=r∧r<cN g p+1∧(Rf g p i).toNat=r:=fun i hi=>by
  have:=NG i hi
  rw [GL i hi]
  exact ⟨(Rf g p i).toNat,by omega,by omega,rfl⟩
 have Px:∀i,i<g.es.length→Lf g p i=(arr (Lf g p) g.es.length).getD i 0:=fun i hi=>(NH i hi).symm
 clear NH GL NG
 generalize arr (Lf g p) g.es.length=LA at*
 generalize arr (Rf g p) g.es.length=RA at*
 generalize Gm g p=lo at*
 generalize IF g p=hi at*
 generalize zm g=U at*
 generalize zm (y4 g p)=V at*
 generalize cN g p=cn at*
 generalize cI g p false N=xs at*
 generalize cI g p true N=ys at*
 generalize az p 0=src at*
 repeat' (first|((first|((with_reducible (first|apply oA|apply oB));exact rfl;intro K hK)|(refine hK _ ?_;clear hK K)|((with_reducible (first|apply oG|apply oH));iterate 3 exact rfl)|((with_reducible apply oI);(iterate 2 exact rfl);intro K hK)|(with_reducible (first|apply wI|apply wJ|apply wK)));try simp only [go_sem,simprocAttr,hN,iT,uk,rK,eC,ud,hlo,hx,hy,decide_true,decide_false])|(with_reducible (first|apply oC|apply oJ|exact oK|apply wA|apply wB|apply wC hX hC|apply wD hX hC|apply wE hX hC af|apply wF hX hC af|apply wG|apply wH|apply And.intro))|((with_reducible refine oD ?_ ?_);kernel_rfl)|((with_reducible (first|apply oE|apply oF));(iterate 3 exact rfl);all_goals (intro h;first|(exact absurd h (by decide))|((try simp only [go_sem,simprocAttr,hN,iT,uk,rK,eC,ud,hlo,hx,hy,decide_true,decide_false] at h);(try with_reducible intro K hK);simp only [go_sem,simprocAttr,hN,iT,uk,rK,eC,ud,hlo,hx,hy,decide_true,decide_false])))|((first|((with_reducible apply wL);exact rfl)|((with_reducible apply wM);exact rfl));all_goals (try ((with_reducible intro h);first|(exact absurd h (by decide))|(try simp only [go_sem,simprocAttr,hN,iT,uk,rK,eC,ud,hlo,hx,hy,decide_true,decide_false] at h))))|omega|((first|refine aa hX hC hP (nq) rfl rfl rfl (by simp only [go_sem,simprocAttr,hN,iT,uk,rK,eC,ud,hlo,hx,hy,decide_true,decide_false]) rfl ?_|refine aa hX hC hP (Kr) rfl rfl rfl (by simp only [go_sem,simprocAttr,hN,iT,uk,rK,eC,ud,hlo,hx,hy,decide_true,decide_false]) rfl ?_|refine aa hX hC hP (Cw) rfl rfl rfl (by simp only [go_sem,simprocAttr,hN,iT,uk,rK,eC,ud,hlo,hx,hy,decide_true,decide_false]) rfl ?_|refine aa hX hC hP (hD) rfl rfl rfl (by simp only [go_sem,simprocAttr,hN,iT,uk,rK,eC,ud,hlo,hx,hy,decide_true,decide_false]) rfl ?_|refine aa hX hC hP (ND) rfl rfl rfl (by simp only [go_sem,simprocAttr,hN,iT,uk,rK,eC,ud,hlo,hx,hy,decide_true,decide_false]) rfl ?_|refine aa hX hC hP (NF) rfl rfl rfl (by simp only [go_sem,simprocAttr,hN,iT,uk,rK,eC,ud,hlo,hx,hy,decide_true,decide_false]) rfl ?_|refine aa hX hC hP (Pu) rfl rfl rfl (by simp only [go_sem,simprocAttr,hN,iT,uk,rK,eC,ud,hlo,hx,hy,decide_true,decide_false]) rfl ?_|refine aa hX hC hP (MN) rfl rfl rfl (by simp only [go_sem,simprocAttr,hN,iT,uk,rK,eC,ud,hlo,hx,hy,decide_true,decide_false]) rfl ?_);try simp only [go_sem,simprocAttr,hN,iT,uk,rK,eC,ud,hlo,hx,hy,decide_true,decide_false])|(intro h))
 refine aj (fun a:Nat=>a≤N) (fun a=>⟨[(2, .ptr 2 0),(3, .ptr 3 0),(8, .ptr 8 0),(5, .d (sI xs)),(6, .d (sI ys)),(10, .d (sU U)),(11, .d (sU V)),(12,eN src),(99, .d (.sl 1 (vI p.outs))),(100,eN N),(101,eN a)], [(2, .box [eN N, .d (sE g.es)]),(3, .box [.d (sI p.ord), .d (.sl 1 (vI p.outs))]),(8, .box [.d (sI LA), .d (sI RA), .d (sI lo), .d (sI hi)])]⟩) (fun a=>N - a) 0 (by omega) ?_ ?_
 ·refine Le.of ?_ ?_<;>simp [go_sem,simprocAttr,uB]
 rintro a ha
 rcases Nat.lt_or_ge a N with ug|Qi
 rotate_left
 ·have hba:decide ((a:Int)<(N:Int))=false:=decide_eq_false (by omega)
  repeat' (first|((first|((with_reducible (first|apply oA|apply oB));exact rfl;intro K hK)|(refine hK _ ?_;clear hK K)|((with_reducible (first|apply oG|apply oH));iterate 3 exact rfl)|((with_reducible apply oI);(iterate 2 exact rfl);intro K hK)|(with_reducible (first|apply wI|apply wJ|apply wK)));try simp only [go_sem,simprocAttr,hba])|(with_reducible (first|apply oC|apply oJ|exact oK|apply wA|apply wB|apply wC hX hC|apply wD hX hC|apply wE hX hC af|apply wF hX hC af|apply wG|apply wH|apply And.intro))|((with_reducible refine oD ?_ ?_);kernel_rfl)|((with_reducible (first|apply oE|apply oF));(iterate 3 exact rfl);all_goals (intro h;first|(exact absurd h (by decide))|((try simp only [go_sem,simprocAttr,hba] at h);(try with_reducible intro K hK);simp only [go_sem,simprocAttr,hba])))|((first|((with_reducible apply wL);exact rfl)|((with_reducible apply wM);exact rfl));all_goals (try ((with_reducible intro h);first|(exact absurd h (by decide))|(try simp only [go_sem,simprocAttr,hba] at h))))|omega|(intro h))
 have hba:decide ((a:Int)<(N:Int))=true:=decide_eq_true (by omega)
 have KQ:=gR (ls:=p.outs) (k:=a) (by omega)
 repeat' (first|((first|((with_reducible (first|apply oA|apply oB));exact rfl;intro K hK)|(refine hK _ ?_;clear hK K)|((with_reducible (first|apply oG|apply oH));iterate 3 exact rfl)|((with_reducible apply oI);(iterate 2 exact rfl);intro K hK)|(with_reducible (first|apply wI|apply wJ|apply wK)));try simp only [go_sem,simprocAttr,hba,KQ,uB])|(with_reducible (first|apply oC|apply oJ|exact oK|apply wA|apply wB|apply wC hX hC|apply wD hX hC|apply wE hX hC af|apply wF hX hC af|apply wG|apply wH|apply And.intro))|((with_reducible refine oD ?_ ?_);kernel_rfl)|((with_reducible (first|apply oE|apply oF));(iterate 3 exact rfl);all_goals (intro h;first|(exact absurd h (by decide))|((try simp only [go_sem,simprocAttr,hba,KQ,uB] at h);(try with_reducible intro K hK);simp only [go_sem,simprocAttr,hba,KQ,uB])))|((first|((with_reducible apply wL);exact rfl)|((with_reducible apply wM);exact rfl));all_goals (try ((with_reducible intro h);first|(exact absurd h (by decide))|(try simp only [go_sem,simprocAttr,hba,KQ,uB] at h))))|omega|(intro h))
 refine aj (fun c:Nat=>c≤N) (fun c=>⟨[(2, .ptr 2 0),(3, .ptr 3 0),(8, .ptr 8 0),(5, .d (sI xs)),(6, .d (sI ys)),(10, .d (sU U)),(11, .d (sU V)),(12,eN src),(99, .d (.sl 1 (vI p.outs))),(100,eN N),(101,eN a),(13,eN a),(14, .d (sI (p.outs.getD a []))),(107, .d (.sl 1 (vI p.outs))),(108,eN N),(109,eN c)], [(2, .box [eN N, .d (sE g.es)]),(3, .box [.d (sI p.ord), .d (.sl 1 (vI p.outs))]),(8, .box [.d (sI LA), .d (sI RA), .d (sI lo), .d (sI hi)])]⟩) (fun c=>N - c) 0 (by omega) ?_ ?_
 ·refine Le.of ?_ ?_<;>simp [go_sem,simprocAttr,uB]
 rintro c hc
 rcases Nat.lt_or_ge c N with dW|Ad
 rotate_left
 ·have hbc:decide ((c:Int)<(N:Int))=false:=decide_eq_false (by omega)
  repeat' (first|((first|((with_reducible (first|apply oA|apply oB));exact rfl;intro K hK)|(refine hK _ ?_;clear hK K)|((with_reducible (first|apply oG|apply oH));iterate 3 exact rfl)|((with_reducible apply oI);(iterate 2 exact rfl);intro K hK)|(with_reducible (first|apply wI|apply wJ|apply wK)));try simp only [go_sem,simprocAttr,hbc])|(with_reducible (first|apply oC|apply oJ|exact oK|apply wA|apply wB|apply wC hX hC|apply wD hX hC|apply wE hX hC af|apply wF hX hC af|apply wG|apply wH|apply And.intro))|((with_reducible refine oD ?_ ?_);kernel_rfl)|((with_reducible (first|apply oE|apply oF));(iterate 3 exact rfl);all_goals (intro h;first|(exact absurd h (by decide))|((try simp only [go_sem,simprocAttr,hbc] at h);(try with_reducible intro K hK);simp only [go_sem,simprocAttr,hbc])))|((first|((with_reducible apply wL);exact rfl)|((with_reducible apply wM);exact rfl));all_goals (try ((with_reducible intro h);first|(exact absurd h (by decide))|(try simp only [go_sem,simprocAttr,hbc] at h))))|omega|(intro h))
  refine ⟨a+1,by omega, ?_,by omega⟩
  refine Le.of ?_ ?_<;>simp [go_sem,simprocAttr,hbc]
 have hbc:decide ((c:Int)<(N:Int))=true:=decide_eq_true (by omega)
 have dJ:=gR (ls:=p.outs) (k:=c) (by omega)
 have H1:Spec Tryz.prog 26 (Args [eU (U.getD a 0),eN c]) [] (eB (uE (U.getD a 0) c)) []:=qn _ (Ar _) _
 have H2:Spec Tryz.prog 26 (Args [eU (U.getD c 0),eN a]) [] (eB (uE (U.getD c 0) a)) []:=qn _ (Ar _) _
 have hk:=hkey a c ug dW
 have l1:=fG a
 have l2:=fG c
 generalize p.outs.getD a []=la at*
 generalize hlc:p.outs.getD c []=lc at*
 generalize Qj:uE (U.getD a 0) c=d1 at*
 generalize Qk:uE (U.getD c 0) a=d2 at*
 have fin:Le ⟨[(2, .ptr 2 0),(3, .ptr 3 0),(8, .ptr 8 0),(5, .d (sI xs)),(6, .d (sI ys)),(10, .d (sU U)),(11, .d (sU V)),(12,eN src),(99, .d (.sl 1 (vI p.outs))),(100,eN N),(101,eN a),(13,eN a),(14, .d (sI la)),(107, .d (.sl 1 (vI p.outs))),(108,eN N),(109,eN ((c:Int)+1))], [(2, .box [eN N, .d (sE g.es)]),(3, .box [.d (sI p.ord), .d (.sl 1 (vI p.outs))]),(8, .box [.d (sI LA), .d (sI RA), .d (sI lo), .d (sI hi)])]⟩ ⟨[(2, .ptr 2 0),(3, .ptr 3 0),(8, .ptr 8 0),(5, .d (sI xs)),(6, .d (sI ys)),(10, .d (sU U)),(11, .d (sU V)),(12,eN src),(99, .d (.sl 1 (vI p.outs))),(100,eN N),(101,eN a),(13,eN a),(14, .d (sI la)),(107, .d (.sl 1 (vI p.outs))),(108,eN N),(109,eN ((c+1:Nat):Int))], [(2, .box [eN N, .d (sE g.es)]),(3, .box [.d (sI p.ord), .d (.sl 1 (vI p.outs))]),(8, .box [.d (sI LA), .d (sI RA), .d (sI lo), .d (sI hi)])]⟩:=by
  refine Le.of ?_ ?_<;>simp [go_sem,simprocAttr,hbc]
 clear fin
 cases fV:decide ((a:Int)=src) with
 |true=>
  repeat' (first|((first|((with_reducible (first|apply oA|apply oB));exact rfl;intro K hK)|(refine hK _ ?_;clear hK K)|((with_reducible (first|apply oG|apply oH));iterate 3 exact rfl)|((with_reducible apply oI);(iterate 2 exact rfl);intro K hK)|(with_reducible (first|apply wI|apply wJ|apply wK)));try simp only [go_sem,simprocAttr,hbc,dJ,fV,eC])|(with_reducible (first|apply oC|apply oJ|exact oK|apply wA|apply wB|apply wC hX hC|apply wD hX hC|apply wE hX hC af|apply wF hX hC af|apply wG|apply wH|apply And.intro))|((with_reducible refine oD ?_ ?_);kernel_rfl)|((with_reducible (first|apply oE|apply oF));(iterate 3 exact rfl);all_goals (intro h;first|(exact absurd h (by decide))|((try simp only [go_sem,simprocAttr,hbc,dJ,fV,eC] at h);(try with_reducible intro K hK);simp only [go_sem,simprocAttr,hbc,dJ,fV,eC])))|((first|((with_reducible apply wL);exact rfl)|((with_reducible apply wM);exact rfl));all_goals (try ((with_reducible intro h);first|(exact absurd h (by decide))|(try simp only [go_sem,simprocAttr,hbc,dJ,fV,eC] at h))))|omega|((first|refine aa hX hC hP (H1) rfl rfl rfl (by simp only [go_sem,simprocAttr,hbc,dJ,fV,eC]) rfl ?_|refine aa hX hC hP (H2) rfl rfl rfl (by simp only [go_sem,simprocAttr,hbc,dJ,fV,eC]) rfl ?_);try simp only [go_sem,simprocAttr,hbc,dJ,fV,eC])|(intro h))
  refine ⟨c+1,by omega, ?_,by omega⟩
  refine Le.of ?_ ?_<;>simp [go_sem,simprocAttr,hbc,dJ,fV,eC]
 |false=>
 cases ic:decide ((c:Int)=src) with
 |true=>
  repeat' (first|((first|((with_reducible (first|apply oA|apply oB));exact rfl;intro K hK)|(refine hK _ ?_;clear hK K)|((with_reducible (first|apply oG|apply oH));iterate 3 exact rfl)|((with_reducible apply oI);(iterate 2 exact rfl);intro K hK)|(with_reducible (first|apply wI|apply wJ|apply wK)));try simp only [go_sem,simprocAttr,hbc,dJ,fV,ic,eC])|(with_reducible (first|apply oC|apply oJ|exact oK|apply wA|apply wB|apply wC hX hC|apply wD hX hC|apply wE hX hC af|apply wF hX hC af|apply wG|apply wH|apply And.intro))|((with_reducible refine oD ?_ ?_);kernel_rfl)|((with_reducible (first|apply oE|apply oF));(iterate 3 exact rfl);all_goals (intro h;first|(exact absurd h (by decide))|((try simp only [go_sem,simprocAttr,hbc,dJ,fV,ic,eC] at h);(try with_reducible intro K hK);simp only [go_sem,simprocAttr,hbc,dJ,fV,ic,eC])))|((first|((with_reducible apply wL);exact rfl)|((with_reducible apply wM);exact rfl));all_goals (try ((with_reducible intro h);first|(exact absurd h (by decide))|(try simp only [go_sem,simprocAttr,hbc,dJ,fV,ic,eC] at h))))|omega|((first|refine aa hX hC hP (H1) rfl rfl rfl (by simp only [go_sem,simprocAttr,hbc,dJ,fV,ic,eC]) rfl ?_|refine aa hX hC hP (H2) rfl rfl rfl (by simp only [go_sem,simprocAttr,hbc,dJ,fV,ic,eC]) rfl ?_);try simp only [go_sem,simprocAttr,hbc,dJ,fV,ic,eC])|(intro h))
  refine ⟨c+1,by omega, ?_,by omega⟩
  refine Le.of ?_ ?_<;>simp [go_sem,simprocAttr,hbc,dJ,fV,ic,eC]
 |false=>
 by_cases hla:la= []
 ·subst hla
  repeat' (first|((first|((with_reducible (first|apply oA|apply oB));exact rfl;intro K hK)|(refine hK _ ?_;clear hK K)|((with_reducible (first|apply oG|apply oH));iterate 3 exact rfl)|((with_reducible apply oI);(iterate 2 exact rfl);intro K hK)|(with_reducible (first|apply wI|apply wJ|apply wK)));try simp only [go_sem,simprocAttr,hbc,dJ,fV,ic,eC,List.length_nil,List.map_nil])|(with_reducible (first|apply oC|apply oJ|exact oK|apply wA|apply wB|apply wC hX hC|apply wD hX hC|apply wE hX hC af|apply wF hX hC af|apply wG|apply wH|apply And.intro))|((with_reducible refine oD ?_ ?_);kernel_rfl)|((with_reducible (first|apply oE|apply oF));(iterate 3 exact rfl);all_goals (intro h;first|(exact absurd h (by decide))|((try simp only [go_sem,simprocAttr,hbc,dJ,fV,ic,eC,List.length_nil,List.map_nil] at h);(try with_reducible intro K hK);simp only [go_sem,simprocAttr,hbc,dJ,fV,ic,eC,List.length_nil,List.map_nil])))|((first|((with_reducible apply wL);exact rfl)|((with_reducible apply wM);exact rfl));all_goals (try ((with_reducible intro h);first|(exact absurd h (by decide))|(try simp only [go_sem,simprocAttr,hbc,dJ,fV,ic,eC,List.length_nil,List.map_nil] at h))))|omega|((first|refine aa hX hC hP (H1) rfl rfl rfl (by simp only [go_sem,simprocAttr,hbc,dJ,fV,ic,eC,List.length_nil,List.map_nil]) rfl ?_|refine aa hX hC hP (H2) rfl rfl rfl (by simp only [go_sem,simprocAttr,hbc,dJ,fV,ic,eC,List.length_nil,List.map_nil]) rfl ?_);try simp only [go_sem,simprocAttr,hbc,dJ,fV,ic,eC,List.length_nil,List.map_nil])|(intro h))
  refine ⟨c+1,by omega, ?_,by omega⟩
  refine Le.of ?_ ?_<;>simp [go_sem,simprocAttr,hbc,dJ,fV,ic,eC,List.length_nil,List.map_nil]
 have hpa:=List.length_pos_iff.2 hla
 have mS:decide ((la.length:Int)=0)=false:=decide_eq_false (by omega)
 by_cases Ii:lc= []
 ·subst Ii
  repeat' (first|((first|((with_reducible (first|apply oA|apply oB));exact rfl;intro K hK)|(refine hK _ ?_;clear hK K)|((with_reducible (first|apply oG|apply oH));iterate 3 exact rfl)|((with_reducible apply oI);(iterate 2 exact rfl);intro K hK)|(with_reducible (first|apply wI|apply wJ|apply wK)));try simp only [go_sem,simprocAttr,hbc,dJ,fV,ic,mS,eC,List.length_nil,List.map_nil])|(with_reducible (first|apply oC|apply oJ|exact oK|apply wA|apply wB|apply wC hX hC|apply wD hX hC|apply wE hX hC af|apply wF hX hC af|apply wG|apply wH|apply And.intro))|((with_reducible refine oD ?_ ?_);kernel_rfl)|((with_reducible (first|apply oE|apply oF));(iterate 3 exact rfl);all_goals (intro h;first|(exact absurd h (by decide))|((try simp only [go_sem,simprocAttr,hbc,dJ,fV,ic,mS,eC,List.length_nil,List.map_nil] at h);(try with_reducible intro K hK);simp only [go_sem,simprocAttr,hbc,dJ,fV,ic,mS,eC,List.length_nil,List.map_nil])))|((first|((with_reducible apply wL);exact rfl)|((with_reducible apply wM);exact rfl));all_goals (try ((with_reducible intro h);first|(exact absurd h (by decide))|(try simp only [go_sem,simprocAttr,hbc,dJ,fV,ic,mS,eC,List.length_nil,List.map_nil] at h))))|omega|((first|refine aa hX hC hP (H1) rfl rfl rfl (by simp only [go_sem,simprocAttr,hbc,dJ,fV,ic,mS,eC,List.length_nil,List.map_nil]) rfl ?_|refine aa hX hC hP (H2) rfl rfl rfl (by simp only [go_sem,simprocAttr,hbc,dJ,fV,ic,mS,eC,List.length_nil,List.map_nil]) rfl ?_);try simp only [go_sem,simprocAttr,hbc,dJ,fV,ic,mS,eC,List.length_nil,List.map_nil])|(intro h))
  refine ⟨c+1,by omega, ?_,by omega⟩
  refine Le.of ?_ ?_<;>simp [go_sem,simprocAttr,hbc,dJ,fV,ic,mS,eC,List.length_nil,List.map_nil]
 have hpc:=List.length_pos_iff.2 Ii
 have qR:decide ((lc.length:Int)=0)=false:=decide_eq_false (by omega)
 cases d1 with
 |true=>
  repeat' (first|((first|((with_reducible (first|apply oA|apply oB));exact rfl;intro K hK)|(refine hK _ ?_;clear hK K)|((with_reducible (first|apply oG|apply oH));iterate 3 exact rfl)|((with_reducible apply oI);(iterate 2 exact rfl);intro K hK)|(with_reducible (first|apply wI|apply wJ|apply wK)));try simp only [go_sem,simprocAttr,hbc,dJ,fV,ic,mS,qR,eC])|(with_reducible (first|apply oC|apply oJ|exact oK|apply wA|apply wB|apply wC hX hC|apply wD hX hC|apply wE hX hC af|apply wF hX hC af|apply wG|apply wH|apply And.intro))|((with_reducible refine oD ?_ ?_);kernel_rfl)|((with_reducible (first|apply oE|apply oF));(iterate 3 exact rfl);all_goals (intro h;first|(exact absurd h (by decide))|((try simp only [go_sem,simprocAttr,hbc,dJ,fV,ic,mS,qR,eC] at h);(try with_reducible intro K hK);simp only [go_sem,simprocAttr,hbc,dJ,fV,ic,mS,qR,eC])))|((first|((with_reducible apply wL);exact rfl)|((with_reducible apply wM);exact rfl));all_goals (try ((with_reducible intro h);first|(exact absurd h (by decide))|(try simp only [go_sem,simprocAttr,hbc,dJ,fV,ic,mS,qR,eC] at h))))|omega|((first|refine aa hX hC hP (H1) rfl rfl rfl (by simp only [go_sem,simprocAttr,hbc,dJ,fV,ic,mS,qR,eC]) rfl ?_|refine aa hX hC hP (H2) rfl rfl rfl (by simp only [go_sem,simprocAttr,hbc,dJ,fV,ic,mS,qR,eC]) rfl ?_);try simp only [go_sem,simprocAttr,hbc,dJ,fV,ic,mS,qR,eC])|(intro h))
  refine ⟨c+1,by omega, ?_,by omega⟩
  refine Le.of ?_ ?_<;>simp [go_sem,simprocAttr,hbc,dJ,fV,ic,mS,qR,eC]
 |false=>
 cases d2 with
 |true=>
  repeat' (first|((first|((with_reducible (first|apply oA|apply oB));exact rfl;intro K hK)|(refine hK _ ?_;clear hK K)|((with_reducible (first|apply oG|apply oH));iterate 3 exact rfl)|((with_reducible apply oI);(iterate 2 exact rfl);intro K hK)|(with_reducible (first|apply wI|apply wJ|apply wK)));try simp only [go_sem,simprocAttr,hbc,dJ,fV,ic,mS,qR,eC])|(with_reducible (first|apply oC|apply oJ|exact oK|apply wA|apply wB|apply wC hX hC|apply wD hX hC|apply wE hX hC af|apply wF hX hC af|apply wG|apply wH|apply And.intro))|((with_reducible refine oD ?_ ?_);kernel_rfl)|((with_reducible (first|apply oE|apply oF));(iterate 3 exact rfl);all_goals (intro h;first|(exact absurd h (by decide))|((try simp only [go_sem,simprocAttr,hbc,dJ,fV,ic,mS,qR,eC] at h);(try with_reducible intro K hK);simp only [go_sem,simprocAttr,hbc,dJ,fV,ic,mS,qR,eC])))|((first|((with_reducible apply wL);exact rfl)|((with_reducible apply wM);exact rfl));all_goals (try ((with_reducible intro h);first|(exact absurd h (by decide))|(try simp only [go_sem,simprocAttr,hbc,dJ,fV,ic,mS,qR,eC] at h))))|omega|((first|refine aa hX hC hP (H1) rfl rfl rfl (by simp only [go_sem,simprocAttr,hbc,dJ,fV,ic,mS,qR,eC]) rfl ?_|refine aa hX hC hP (H2) rfl rfl rfl (by simp only [go_sem,simprocAttr,hbc,dJ,fV,ic,mS,qR,eC]) rfl ?_);try simp only [go_sem,simprocAttr,hbc,dJ,fV,ic,mS,qR,eC])|(intro h))
  refine ⟨c+1,by omega, ?_,by omega⟩
  refine Le.of ?_ ?_<;>simp [go_sem,simprocAttr,hbc,dJ,fV,ic,mS,qR,eC]
 |false=>
 obtain ⟨e,f,k1,k2,k3,k4,k5⟩:=hk hla Ii rfl rfl
 obtain ⟨r,q1,q2,q3⟩:=KN e k2
 rw [q3,Px f k4] at k5
 have H3:Spec Tryz.prog 26 (Args [eU (V.getD r 0),eN (LA.getD f 0)]) [] (eB (uE (V.getD r 0) (LA.getD f 0))) []:=qn _ (MO _) _
 rw [← k5] at H3
 have hx1:((la.length:Int) - 1)=((la.length - 1:Nat):Int):=by omega
 have wS:decide ((r:Int)<0)=false:=decide_eq_false (by omega)
 have wT:decide (((cn+1:Nat):Int)≤(r:Int))=false:=decide_eq_false (by omega)
 cases Fq:decide (xs.getD a 0<xs.getD c 0)<;>cases Fs:decide (ys.getD c 0<ys.getD a 0)<;>rw [Fq,Fs] at H3<;>simp only [Bool.and_self,Bool.and_true,Bool.and_false,Bool.true_and,Bool.false_and] at H3
 all_goals (
 repeat' (first|((first|((with_reducible (first|apply oA|apply oB));exact rfl;intro K hK)|(refine hK _ ?_;clear hK K)|((with_reducible (first|apply oG|apply oH));iterate 3 exact rfl)|((with_reducible apply oI);(iterate 2 exact rfl);intro K hK)|(with_reducible (first|apply wI|apply wJ|apply wK)));try simp only [go_sem,simprocAttr,hbc,dJ,fV,ic,mS,qR,Fq,Fs,eC,ud,hx,hy,hx1,k1,k3,q1,wS,wT,uk,rK])|(with_reducible (first|apply oC|apply oJ|exact oK|apply wA|apply wB|apply wC hX hC|apply wD hX hC|apply wE hX hC af|apply wF hX hC af|apply wG|apply wH|apply And.intro))|((with_reducible refine oD ?_ ?_);kernel_rfl)|((with_reducible (first|apply oE|apply oF));(iterate 3 exact rfl);all_goals (intro h;first|(exact absurd h (by decide))|((try simp only [go_sem,simprocAttr,hbc,dJ,fV,ic,mS,qR,Fq,Fs,eC,ud,hx,hy,hx1,k1,k3,q1,wS,wT,uk,rK] at h);(try with_reducible intro K hK);simp only [go_sem,simprocAttr,hbc,dJ,fV,ic,mS,qR,Fq,Fs,eC,ud,hx,hy,hx1,k1,k3,q1,wS,wT,uk,rK])))|((first|((with_reducible apply wL);exact rfl)|((with_reducible apply wM);exact rfl));all_goals (try ((with_reducible intro h);first|(exact absurd h (by decide))|(try simp only [go_sem,simprocAttr,hbc,dJ,fV,ic,mS,qR,Fq,Fs,eC,ud,hx,hy,hx1,k1,k3,q1,wS,wT,uk,rK] at h))))|omega|((first|refine aa hX hC hP (H1) rfl rfl rfl (by simp only [go_sem,simprocAttr,hbc,dJ,fV,ic,mS,qR,Fq,Fs,eC,ud,hx,hy,hx1,k1,k3,q1,wS,wT,uk,rK]) rfl ?_|refine aa hX hC hP (H2) rfl rfl rfl (by simp only [go_sem,simprocAttr,hbc,dJ,fV,ic,mS,qR,Fq,Fs,eC,ud,hx,hy,hx1,k1,k3,q1,wS,wT,uk,rK]) rfl ?_|refine aa hX hC hP (H3) rfl rfl rfl (by simp only [go_sem,simprocAttr,hbc,dJ,fV,ic,mS,qR,Fq,Fs,eC,ud,hx,hy,hx1,k1,k3,q1,wS,wT,uk,rK]) rfl ?_);try simp only [go_sem,simprocAttr,hbc,dJ,fV,ic,mS,qR,Fq,Fs,eC,ud,hx,hy,hx1,k1,k3,q1,wS,wT,uk,rK])|(intro h)))
 all_goals (refine ⟨c+1,by omega, ?_,by omega⟩)
 all_goals (refine Le.of ?_ ?_<;>simp [go_sem,simprocAttr,hbc,dJ,fV,ic,mS,qR,Fq,Fs,eC,ud,hx,hy,hx1,k1,k3,q1,wS,wT,uk,rK])
end Go.Ab
end
