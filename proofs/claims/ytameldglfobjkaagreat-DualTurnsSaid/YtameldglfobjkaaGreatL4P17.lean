/- A part of the proof. -/
import Derived.RangeFuncBox
import Derived.RangeFuncLeaves
import Derived.Shelf.Abstract
import Derived.WalkKit
import Derived.OwnWalkIn
import Derived.TacticsInMore
import Derived.LoopNIn
import Derived.LoopIn
import Derived.Test.YtameldglfobjkaaGreatL4P16
set_option linter.unusedSimpArgs false
set_option linter.unusedVariables false
section
namespace Go.Ab
open Go.Proofs
attribute [local congr] ACall.congr gd.congr Nx.congr
set_option maxRecDepth 10000
set_option maxHeartbeats 8000000
def jX (A o:List Int) (f:Nat→Int):Nat→List Int
 |0=>A
 |j+1=>(jX A o f j).set (o.getD j 0).toNat (f j)
theorem fT {A o:List Int} {f:Nat→Int} :∀ {j:Nat},(jX A o f j).length=A.length
 |0=>rfl
 |j+1=>by rw [jX,List.length_set,fT]
def mN (A o:List Int) (left:Int) (c:Nat) (j:Nat):List Int:=jX A o (fun j=>if j=0 then left else (c:Int)+j - 1) j
def mO (A o:List Int) (right:Int) (c:Nat) (j:Nat):List Int:=jX A o (fun j=>if j+1<o.length then (c:Int)+j else right) j
theorem BO {A o:List Int} {left:Int} {c:Nat} {j:Nat} :(mN A o left c j).length=A.length:=fT
theorem BP {A o:List Int} {left:Int} {c:Nat} {j:Nat} :(mO A o left c j).length=A.length:=fT
theorem uw {A o:List Int} {f:Nat→Int} {e:Nat} :∀ {j:Nat},(∀i,i<j→(o.getD i 0).toNat≠e)→(jX A o f j).getD e 0=A.getD e 0
 |0,_=>rfl
 |j+1,h=>by
  have h1:=h j (by omega)
  rw [jX,List.getD_eq_getElem?_getD,List.getElem?_set,if_neg h1, ← List.getD_eq_getElem?_getD,uw fun i hi=>h i (by omega)]
theorem x4 {A o:List Int} {f:Nat→Int} {i:Nat} (hA:(o.getD i 0).toNat<A.length):∀ {j:Nat},i<j→(∀k,k<j→(o.getD k 0).toNat=(o.getD i 0).toNat→k=i)→(jX A o f j).getD (o.getD i 0).toNat 0=f i
 |0,h,_=>by omega
 |j+1,h,hn=>by
  rw [jX,List.getD_eq_getElem?_getD,List.getElem?_set]
  by_cases e:(o.getD j 0).toNat=(o.getD i 0).toNat
  ·have:=hn j (by omega) e
   subst this
   rw [if_pos rfl,if_pos (by rw [fT];exact hA)];rfl
  ·have hji:j≠i:=fun e2=>e (by rw [e2])
   rw [if_neg e, ← List.getD_eq_getElem?_getD,x4 hA (by omega) fun k hk=>hn k (by omega)]
def eY (c k:Nat):List Int:=(List.range k).map fun i:Nat=>((c+i:Nat):Int)
theorem zk {c k:Nat} :eY c (k+1)=eY c k++ [((c+k:Nat):Int)]:=by simp [eY,List.range_succ]
theorem jY {c k:Nat} :(eY c k).length=k:=by simp [eY]
def F4 (left:Int) (c d j:Nat):Int:=if min j (d - 1)=0 then left else (c:Int)+(min j (d - 1):Nat) - 1
def IS (ed gp:D) (A B lo hi:List Int):List (Nat × AObj):= [(10000, .box [.d ed, .d gp, .ref 10001, .ref 10002, .ref 10003, .ref 10004]),(10001, .own 3 1 (A.map rI)),(10002, .own 3 1 (B.map rI)),(10003, .tip 3 1 (lo.map rI)),(10004, .own 3 1 (hi.map rI))]
def IT (ed gp:D) (A B lo hi:List Int):List (Nat × AObj):= [(10000, .box [.d ed, .d gp, .ref 10001, .ref 10002, .ref 10005, .ref 10006]),(10001, .own 3 1 (A.map rI)),(10002, .own 3 1 (B.map rI)),(10005, .tip 3 1 (lo.map rI)),(10006, .own 3 1 (hi.map rI))]
theorem uz (x left right:Int) (o:List Int) (ed gp:D) (A B lo hi:List Int) (ho:o.length≤100000) (hO:∀i∈o,0≤i∧i<A.length) (hB:B.length=A.length) (hlo:lo.length≤100000) (hhi:hi.length≤100000):
 Spec Tryz.prog 43 (Args [.ptr 10000 0,eN x, .d (sI o),eN left,eN right]) (IS ed gp A B lo hi)
  (.d (sI (eY lo.length (o.length - 1)))) (IT ed gp (mN A o left lo.length o.length) (mO B o right lo.length o.length) (lo++List.replicate (o.length - 1) x) (hi++List.replicate (o.length - 1) 0)):=by
 unfold IS IT
 generalize hc:lo.length=c at*
 (refine Spec.A6 (C:=T.cfg [] []) (rs:= [.t 10]) [(10005,200),(10006,201)] (T.ai _ _) Tryz.func43 rfl rfl Tryz.ntmps43 Tryz.results43 (by simp [AObj.isNest]) (by simp [AObj.isNest]) (by first|(simp [look];done)|(simp [asN];done)|(intro l hl;simp only [asN];repeat (rw [if_neg (fun e=>by subst e;simp [look] at hl)]))) (by first|(simp [look];done)|(simp [asN];done)|(intro l hl;simp only [asN];repeat (rw [if_neg (fun e=>by subst e;simp [look] at hl)]))) (by kernel_rfl) T.mixed fun X hX hP hC aK cw=> ?_)
 repeat' (first|(show cl _ (.seq (.region 1 _ _) _) _ _;(refine iN hX 10 202 (.tip 3 1 []) (by simp only [go_sem,simprocAttr]) (by simp only [go_sem,simprocAttr]) (by decide) ⟨3,1,by decide, .inr rfl⟩ ?_;simp only [go_sem,simprocAttr]);(refine iO hX 10000 4 10003 200 rfl rfl rfl (by first|exact .inl rfl|exact .inr rfl) (by decide) (by decide) ?_;simp only [List.set_cons_zero,List.set_cons_succ,go_sem,simprocAttr]);(refine iO hX 10000 5 10004 201 rfl rfl rfl (by first|exact .inl rfl|exact .inr rfl) (by decide) (by decide) ?_;simp only [List.set_cons_zero,List.set_cons_succ,go_sem,simprocAttr]))|refine Rn.p ?_|(with_reducible apply And.intro)|((first|(refine hK _ ?_;clear hK K)|with_reducible intro K hK|refine Rs.p ?_|((with_reducible first|apply oP|apply oQ);exact rfl));try simp only [go_sem,simprocAttr])|((with_reducible refine oD ?_ ?_);kernel_rfl)|((with_reducible intro h);try simp only [go_sem,simprocAttr] at h)|omega|intro h)
 refine ag (fun j:Nat=>j≤o.length) (fun j=>⟨[(0, .ptr 10000 0),(1,eN x),(2, .d (sI o)),(3,eN (F4 left c o.length j)),(4,eN right),(10, .ref 202),(13, .d (sI o)),(14,eN o.length),(15,eN j)], [(10000, .box [.d ed, .d gp, .ref 10001, .ref 10002, .ref 200, .ref 201]),(10001, .own 3 1 ((mN A o left c j).map rI)),(10002, .own 3 1 ((mO B o right c j).map rI)),(200, .tip 3 1 ((lo++List.replicate (min j (o.length - 1)) x).map rI)),(201, .own 3 1 ((hi++List.replicate (min j (o.length - 1)) 0).map rI)),(202, .tip 3 1 ((eY c (min j (o.length - 1))).map rI))]⟩) (fun j=>o.length - j) 0 (by omega) ?_ ?_
 ·refine Le.of ?_ ?_<;>simp [go_sem,simprocAttr,F4,mN,mO,jX,eY]
 rintro j hj
 rcases Nat.lt_or_ge j o.length with hjl|IK
 rotate_left
 ·have hb:decide ((j:Int)<(o.length:Int))=false:=decide_eq_false (by omega)
  obtain rfl:j=o.length:=by omega
  have hmin:min o.length (o.length - 1)=o.length - 1:=by omega
  rw [hmin]
  repeat' (first|refine Rn.p ?_|(with_reducible apply And.intro)|((first|(refine hK _ ?_;clear hK K)|with_reducible intro K hK|refine Rs.p ?_|((with_reducible first|apply oP|apply oQ);exact rfl));try simp only [go_sem,simprocAttr,hb])|((with_reducible refine oD ?_ ?_);kernel_rfl)|((with_reducible intro h);try simp only [go_sem,simprocAttr,hb] at h)|omega|intro h)
 have hb:decide ((j:Int)<(o.length:Int))=true:=decide_eq_true (by omega)
 have hin:=hO _ (aV (d:=0) hjl)
 have wh:=BO (A:=A) (o:=o) (left:=left) (c:=c) (j:=j)
 have kH:=BP (A:=B) (o:=o) (left:=right) (c:=c) (j:=j)
 have Ib:mN A o left c (j+1)=(mN A o left c j).set (o.getD j 0).toNat (if j=0 then left else (c:Int)+j - 1):=rfl
 have uA:mO B o right c (j+1)=(mO B o right c j).set (o.getD j 0).toNat (if j+1<o.length then (c:Int)+j else right):=rfl
 have o8:min j (o.length - 1)=j:=by omega
 have hlf:F4 left c o.length j=if j=0 then left else (c:Int)+j - 1:=by unfold F4;rw [o8]
 rw [o8,hlf]
 generalize x5:o.getD j 0=v at hin Ib uA
 obtain ⟨i,rfl⟩:∃i:Nat,v=i:=⟨v.toNat,by omega⟩
 rw [Int.toNat_natCast] at Ib uA
 generalize (if j=0 then left else (c:Int)+j - 1)=lv at Ib hlf ⊢
 by_cases hj2:j+1<o.length
 ·have an:decide ((j:Int)+1<(o.length:Int))=true:=decide_eq_true (by omega)
  have hm2:min (j+1) (o.length - 1)=j+1:=by omega
  rw [if_pos hj2] at uA
  have Ic:F4 left c o.length (j+1)=((c+j:Nat):Int):=by unfold F4;rw [hm2,if_neg (by omega)];omega
  have lZ:(lo++List.replicate j x).length=c+j:=by rw [List.length_append,List.length_replicate,hc]
  have x6:(hi++List.replicate j (0:Int)).length=hi.length+j:=by rw [List.length_append,List.length_replicate]
  have KA:lo++List.replicate (j+1) x=(lo++List.replicate j x)++ [x]:=by rw [List.replicate_succ', ← List.append_assoc]
  have KB:hi++List.replicate (j+1) (0:Int)=(hi++List.replicate j 0)++ [0]:=by rw [List.replicate_succ', ← List.append_assoc]
  have tF:=jY (c:=c) (k:=j)
  have CU:=zk (c:=c) (k:=j)
  generalize lo++List.replicate j x=RT at lZ KA
  generalize hi++List.replicate j (0:Int)=hi1 at x6 KB
  generalize eY c j=gs at tF CU
  generalize mN A o left c j=A1 at wh Ib
  generalize mO B o right c j=B1 at kH uA
  repeat' (first|(show cl _ (.seq (.region 8 _ _) _) _ _;(refine iO hX 10000 4 48 200 rfl rfl rfl (by first|exact .inl rfl|exact .inr rfl) (by decide) (by decide) ?_;simp only [List.set_cons_zero,List.set_cons_succ,go_sem,simprocAttr,hb,an,x5,wh,kH,lZ,x6,tF]);(refine iO hX 10000 5 55 201 rfl rfl rfl (by first|exact .inl rfl|exact .inr rfl) (by decide) (by decide) ?_;simp only [List.set_cons_zero,List.set_cons_succ,go_sem,simprocAttr,hb,an,x5,wh,kH,lZ,x6,tF]))|(show cl _ (.region 9 _ _) _ _;(refine jd hX 10 65 202 (by simp only [go_sem,simprocAttr,hb,an,x5,wh,kH,lZ,x6,tF]) rfl (by first|exact .inl rfl|exact .inr rfl) (by decide) ?_;simp only [go_sem,simprocAttr,hb,an,x5,wh,kH,lZ,x6,tF]))|refine Rn.p ?_|(with_reducible apply And.intro)|((first|(refine hK _ ?_;clear hK K)|with_reducible intro K hK|refine Rs.p ?_|((with_reducible first|apply oP|apply oQ);exact rfl));try simp only [go_sem,simprocAttr,hb,an,x5,wh,kH,lZ,x6,tF])|((with_reducible refine oD ?_ ?_);kernel_rfl)|((with_reducible intro h);try simp only [go_sem,simprocAttr,hb,an,x5,wh,kH,lZ,x6,tF] at h)|omega|intro h)
  refine ⟨j+1,by omega, ?_,by omega⟩
  rw [Ib,uA,hm2,KA,KB,CU,Ic]
  refine Le.of ?_ ?_<;>simp [go_sem,simprocAttr,hb,an,x5,wh,kH,lZ,x6,tF,rI]
 ·have an:decide ((j:Int)+1<(o.length:Int))=false:=decide_eq_false (by omega)
  have hm2:min (j+1) (o.length - 1)=j:=by omega
  have Ic:F4 left c o.length (j+1)=F4 left c o.length j:=by unfold F4;rw [hm2,o8]
  rw [if_neg hj2] at uA
  generalize mN A o left c j=A1 at wh Ib
  generalize mO B o right c j=B1 at kH uA
  repeat' (first|refine Rn.p ?_|(with_reducible apply And.intro)|((first|(refine hK _ ?_;clear hK K)|with_reducible intro K hK|refine Rs.p ?_|((with_reducible first|apply oP|apply oQ);exact rfl));try simp only [go_sem,simprocAttr,hb,an,x5,wh,kH])|((with_reducible refine oD ?_ ?_);kernel_rfl)|((with_reducible intro h);try simp only [go_sem,simprocAttr,hb,an,x5,wh,kH] at h)|omega|intro h)
  refine ⟨j+1,by omega, ?_,by omega⟩
  rw [Ib,uA,hm2,Ic,hlf]
  refine Le.of ?_ ?_<;>simp [go_sem,simprocAttr,hb,an,x5,wh,kH,rI]
end Go.Ab
end
section
namespace Go.Ab
open Go.Proofs
attribute [local congr] ACall.congr gd.congr Nx.congr
set_option maxRecDepth 10000
set_option maxHeartbeats 8000000
def lN (A fs:List Int) (x:Int) (j:Nat):List Int:=jX A fs (fun _=>x) j
theorem pU {A fs:List Int} {x:Int} {j:Nat} :(lN A fs x j).length=A.length:=fT
theorem jl (l items:List Int) (a b:Nat) (h0:0<(l.take a++items++l.drop b).length) (hr:l.length≤400000) (hi:items.length≤100000):Spec Tryz.prog 45 (Args [.d (.sl 1 [[.sl 1 (List.take a (l.map rI))], [.sl 1 (items.map rI)], [.sl 1 (List.drop b (l.map rI))]])]) [] (.d (sI (l.take a++items++l.drop b))) []:=by
 have hf: [l.take a,items,l.drop b].flatten=l.take a++items++l.drop b:=by simp
 have:=dQ [l.take a,items,l.drop b] (by simp) (by rw [hf];exact h0) (by rw [hf];simp;omega)
 rw [hf] at this
 simpa only [vL,List.map_cons,List.map_nil,sI,List.map_take,List.map_drop] using this
theorem vM (x:Int) (o W G A B lo hi:List Int) (a b:Nat) (hab:a<b) (RU:b<G.length) (RW:b≤W.length) (hG:G.length≤100000) (hW:W.length≤100000) (hf:∀f∈(G.take b).drop (a+1),0≤f∧f<hi.length)
 (ho:o.length≤100000) (hO:∀i∈o,0≤i∧i<A.length) (hB:B.length=A.length) (hlo:lo.length≤100000) (hhi:hi.length≤100000):
 Spec Tryz.prog 47 (Args [.ptr 10000 0,eN x, .d (sI o),eN a,eN b]) (IS (sI W) (sI G) A B lo hi) (.tup [])
  (IT (sI (if o= [] then W else W.take a++o++W.drop b)) (sI (G.take (a+1)++eY lo.length (o.length - 1)++G.drop b)) (mN A o (G.getD a 0) lo.length o.length) (mO B o (G.getD b 0) lo.length o.length) (lo++List.replicate (o.length - 1) x) (lN hi ((G.take b).drop (a+1)) x ((G.take b).drop (a+1)).length++List.replicate (o.length - 1) 0)):=by
 have yj:List.drop (a+1) (List.take b (List.map rI G))=((G.take b).drop (a+1)).map rI:=by rw [List.map_drop,List.map_take]
 have hfl:((G.take b).drop (a+1)).length≤100000:=by simp;omega
 generalize (G.take b).drop (a+1)=fs at yj hf hfl ⊢
 have Aw:List.take G.length (List.map rI G)=List.map rI G:=List.take_of_length_le (by simp)
 have Ax:List.take W.length (List.map rI W)=List.map rI W:=List.take_of_length_le (by simp)
 have hmn:min ((a:Int)+1) (b:Int)=((a+1:Nat):Int):=by omega
 have D6:=uz x (G.getD a 0) (G.getD b 0) o (sI W) (sI G) A B lo (lN hi fs x fs.length) ho hO hB hlo (by rw [pU];exact hhi)
 have NA:=jl G (eY lo.length (o.length - 1)) (a+1) b (by simp;omega) (by omega) (by rw [jY];omega)
 have Lk:=fun (h:o≠ [])=>jl W o a b (by have:=List.length_pos_iff.2 h;simp;omega) (by omega) (by omega)
 generalize hg:eY lo.length (o.length - 1)=gs at D6 NA
 unfold IS IT at D6 ⊢
 (refine Spec.A6 (C:=T.cfg [] []) (rs:= []) [(10005,300),(10006,301)] (T.ai _ _) Tryz.func47 rfl rfl Tryz.ntmps47 Tryz.results47 (by simp [AObj.isNest]) (by simp [AObj.isNest]) (by first|(simp [look];done)|(simp [asN];done)|(intro l hl;simp only [asN];repeat (rw [if_neg (fun e=>by subst e;simp [look] at hl)]))) (by first|(simp [look];done)|(simp [asN];done)|(intro l hl;simp only [asN];repeat (rw [if_neg (fun e=>by subst e;simp [look] at hl)]))) (by kernel_rfl) T.mixed fun X hX hP hC aK cw=> ?_)
 repeat' (first|refine Rn.p ?_|(with_reducible apply And.intro)|((first|(refine hK _ ?_;clear hK K)|with_reducible intro K hK|refine Rs.p ?_|((with_reducible first|apply oP|apply oQ);exact rfl));try simp only [go_sem,simprocAttr,hmn,yj])|((with_reducible refine oD ?_ ?_);kernel_rfl)|((with_reducible intro h);try simp only [go_sem,simprocAttr,hmn,yj] at h)|omega|intro h)
 refine ag (fun j:Nat=>j≤fs.length) (fun j=>⟨[(0, .ptr 10000 0),(1,eN x),(2, .d (sI o)),(3,eN a),(4,eN b),(24, .d (sI fs)),(25,eN fs.length),(26,eN j)], [(10000, .box [.d (sI W), .d (sI G), .ref 10001, .ref 10002, .ref 10003, .ref 10004]),(10001, .own 3 1 (A.map rI)),(10002, .own 3 1 (B.map rI)),(10003, .tip 3 1 (lo.map rI)),(10004, .own 3 1 ((lN hi fs x j).map rI))]⟩) (fun j=>fs.length - j) 0 (by omega) ?_ ?_
 ·refine Le.of ?_ ?_<;>simp [go_sem,simprocAttr,lN,jX]
 rintro j hj
 rcases Nat.lt_or_ge j fs.length with hjl|IK
 ·have hb:decide ((j:Int)<(fs.length:Int))=true:=decide_eq_true (by omega)
  have hin:=hf _ (aV (d:=0) hjl)
  have x6:=pU (A:=hi) (fs:=fs) (x:=x) (j:=j)
  have Ll:lN hi fs x (j+1)=(lN hi fs x j).set (fs.getD j 0).toNat x:=rfl
  generalize x5:fs.getD j 0=v at hin Ll
  obtain ⟨i,rfl⟩:∃i:Nat,v=i:=⟨v.toNat,by omega⟩
  rw [Int.toNat_natCast] at Ll
  generalize lN hi fs x j=H1 at x6 Ll
  repeat' (first|refine Rn.p ?_|(with_reducible apply And.intro)|((first|(refine hK _ ?_;clear hK K)|with_reducible intro K hK|refine Rs.p ?_|((with_reducible first|apply oP|apply oQ);exact rfl));try simp only [go_sem,simprocAttr,hb,x5,x6])|((with_reducible refine oD ?_ ?_);kernel_rfl)|((with_reducible intro h);try simp only [go_sem,simprocAttr,hb,x5,x6] at h)|omega|intro h)
  refine ⟨j+1,by omega, ?_,by omega⟩
  rw [Ll]
  refine Le.of ?_ ?_<;>simp [go_sem,simprocAttr,hb,x5,x6,rI]
 have hb:decide ((j:Int)<(fs.length:Int))=false:=decide_eq_false (by omega)
 obtain rfl:j=fs.length:=by omega
 have yp:((a:Int)+1).toNat=a+1:=by omega
 by_cases hne:o= []
 ·have an:decide ((o.length:Int)=0)=true:=decide_eq_true (by rw [hne];rfl)
  repeat' (first|refine Rn.p ?_|(with_reducible apply And.intro)|((first|(refine hK _ ?_;clear hK K)|with_reducible intro K hK|refine Rs.p ?_|((with_reducible first|apply oP|apply oQ);exact rfl)|(refine az hX hC hP [(10000,10000),(10001,10001),(10002,10002),(10003,10003),(10004,10004),(10005,300),(10006,301)] (D6) rfl rfl rfl ?_ ?_ ?_ ?_ ?_ ?_ ?_ ?_ ?_ ?_ ?_ ?_ ?_ ?_;(focus (simp only [go_sem,simprocAttr,hb,an,if_pos hne,yp,Aw,Ax];done));(iterate 12 (focus (simp [go_sem,simprocAttr,hb,an,if_pos hne,yp,Aw,Ax];done)));try simp only [List.map_cons,List.map_nil])|(refine bJ hX hC hP (NA) rfl rfl rfl ?_ ?_ rfl ?_;iterate 2 (focus (simp only [go_sem,simprocAttr,hb,an,if_pos hne,yp,Aw,Ax];done)))|(refine bJ hX hC hP (Lk hne) rfl rfl rfl ?_ ?_ rfl ?_;iterate 2 (focus (simp only [go_sem,simprocAttr,hb,an,if_pos hne,yp,Aw,Ax];done))));try simp only [go_sem,simprocAttr,hb,an,if_pos hne,yp,Aw,Ax])|((with_reducible refine oD ?_ ?_);kernel_rfl)|((with_reducible intro h);try simp only [go_sem,simprocAttr,hb,an,if_pos hne,yp,Aw,Ax] at h)|omega|intro h)
  all_goals (first|rfl|(simp only [go_sem,simprocAttr,hb,an,if_pos hne,yp,Aw,Ax];done))
 ·have an:decide ((o.length:Int)=0)=false:=decide_eq_false (by have:=List.length_pos_iff.2 hne;omega)
  repeat' (first|refine Rn.p ?_|(with_reducible apply And.intro)|((first|(refine hK _ ?_;clear hK K)|with_reducible intro K hK|refine Rs.p ?_|((with_reducible first|apply oP|apply oQ);exact rfl)|(refine az hX hC hP [(10000,10000),(10001,10001),(10002,10002),(10003,10003),(10004,10004),(10005,300),(10006,301)] (D6) rfl rfl rfl ?_ ?_ ?_ ?_ ?_ ?_ ?_ ?_ ?_ ?_ ?_ ?_ ?_ ?_;(focus (simp only [go_sem,simprocAttr,hb,an,if_neg hne,yp,Aw,Ax];done));(iterate 12 (focus (simp [go_sem,simprocAttr,hb,an,if_neg hne,yp,Aw,Ax];done)));try simp only [List.map_cons,List.map_nil])|(refine bJ hX hC hP (NA) rfl rfl rfl ?_ ?_ rfl ?_;iterate 2 (focus (simp only [go_sem,simprocAttr,hb,an,if_neg hne,yp,Aw,Ax];done)))|(refine bJ hX hC hP (Lk hne) rfl rfl rfl ?_ ?_ rfl ?_;iterate 2 (focus (simp only [go_sem,simprocAttr,hb,an,if_neg hne,yp,Aw,Ax];done))));try simp only [go_sem,simprocAttr,hb,an,if_neg hne,yp,Aw,Ax])|((with_reducible refine oD ?_ ?_);kernel_rfl)|((with_reducible intro h);try simp only [go_sem,simprocAttr,hb,an,if_neg hne,yp,Aw,Ax] at h)|omega|intro h)
  all_goals (first|rfl|(simp only [go_sem,simprocAttr,hb,an,if_neg hne,yp,Aw,Ax];done))
end Go.Ab
end
section
namespace Go.Ab
open Go.Proofs
set_option maxRecDepth 10000
set_option linter.unusedSectionVars false
def arr (f:Int→Int) (m:Nat):List Int:=(List.range m).map fun i:Nat=>f (i:Int)
theorem ee {f:Int→Int} {m:Nat} :(arr f m).length=m:=by simp [arr]
theorem vN {f:Int→Int} {m i:Nat} (h:i<m):(arr f m).getD i 0=f (i:Int):=by
 simp [arr,List.getD_eq_getElem?_getD,List.getElem?_range h]
theorem jZ {l m:List Int} (hl:l.length=m.length) (h:∀i,i<l.length→l.getD i 0=m.getD i 0):l=m:=by
 refine List.ext_getElem? fun i=> ?_
 by_cases hi:i<l.length
 ·have:=h i hi
  rw [List.getD_eq_getElem?_getD,List.getD_eq_getElem?_getD,List.getElem?_eq_getElem hi,List.getElem?_eq_getElem (by omega)] at this
  rw [List.getElem?_eq_getElem hi,List.getElem?_eq_getElem (by omega)]
  simpa using this
 ·rw [List.getElem?_eq_none (by omega),List.getElem?_eq_none (by omega)]
theorem oX {u v:List Int} {e:Int} :(u++e::v).getD u.length 0=e:=by
 rw [List.getD_eq_getElem?_getD,List.getElem?_append_right (Nat.le_refl _)];simp
section
variable {g:Gr} {p:Pl} (h:bM g p)
include h
theorem iX {k:Nat} (hk:k<g.n.toNat) {e:Int} (he:e∈bF p (aq p k)):(0≤e∧e<g.es.length)∧iB g e=aq p k:=by
 have hx:=aJ h.2.1 hk
 exact cI.1 ((bN h.2.1 hx.1 hx.2).mem_iff.1 he)
theorem D7 {k:Nat} (hk:k<g.n.toNat):(bF p (aq p k)).Nodup:=by
 have hx:=aJ h.2.1 hk
 exact (bN h.2.1 hx.1 hx.2).nodup_iff.2 dc
theorem Ay {k:Nat} (hk:k<g.n.toNat) {e:Int} (he:0≤e∧e<g.es.length) (ht:iB g e=aq p k):∃u v,bF p (aq p k)=u++e::v:=by
 have hx:=aJ h.2.1 hk
 exact List.append_of_mem ((bN h.2.1 hx.1 hx.2).mem_iff.2 (cI.2 ⟨he,ht⟩))
theorem uB {k:Nat} (hk:k<g.n.toNat) {f F F':Int→Int} {v:Nat→Int} (hin:∀u w e,bF p (aq p k)=u++e::w→F' e=v u.length) (hout:∀e:Int,iB g e≠aq p k→F' e=F e):
 jX (arr F g.es.length) (bF p (aq p k)) v (bF p (aq p k)).length=arr F' g.es.length:=by
 refine jZ (by rw [fT,ee,ee]) fun i hi=> ?_
 rw [fT,ee] at hi
 rw [vN hi]
 by_cases ht:iB g (i:Int)=aq p k
 ·obtain ⟨u,w,D8⟩:=Ay h hk (e:=(i:Int)) (by omega) ht
  have e1:(bF p (aq p k)).getD u.length 0=(i:Int):=by rw [D8];exact oX
  have:=x4 (A:=arr F g.es.length) (o:=bF p (aq p k)) (f:=v) (i:=u.length) (by rw [e1,ee];simpa using hi) (j:=(bF p (aq p k)).length) (by rw [D8];simp) fun q hq e2=>by
   rw [e1,Int.toNat_natCast] at e2
   have h2:=iX h hk (aV (d:=0) hq)
   have h3:(bF p (aq p k)).getD q 0=(i:Int):=by omega
   have b8:=D7 h hk
   have:(bF p (aq p k))[q]'hq=(bF p (aq p k))[u.length]'(by rw [D8];simp):=by
    rw [List.getD_eq_getElem?_getD,List.getElem?_eq_getElem hq] at h3
    rw [List.getD_eq_getElem?_getD,List.getElem?_eq_getElem (by rw [D8];simp)] at e1
    simp only [Option.getD_some] at h3 e1
    rw [h3,e1]
   exact (List.getElem_inj b8).1 this
  rw [e1,Int.toNat_natCast] at this
  rw [this,hin u w (i:Int) D8]
 ·rw [uw fun q hq e2=> ?_,vN hi,hout _ ht]
  have h2:=iX h hk (aV (d:=0) hq)
  exact ht (by rw [← h2.2];congr 1;omega)
theorem KC {k:Nat} (hk:k<g.n.toNat):mN (arr (LK g p k) g.es.length) (bF p (aq p k)) (if k=0 then 0 else LK g p k (er g p (aq p k))) (cK p k) (bF p (aq p k)).length=arr (LK g p (k+1)) g.es.length:=by
 refine uB (f:=fun _=>0) h hk (fun u w e D8=> ?_) fun e he=>by rw [LK,if_neg he]
 obtain ⟨a,b⟩:=nE h hk D8
 rw [LK,if_pos a,b]
theorem KE {r:Int} {k:Nat} (hk:k<g.n.toNat):mO (arr (RK g p r k) g.es.length) (bF p (aq p k)) (if k=0 then r else RK g p r k (mM g p (aq p k))) (cK p k) (bF p (aq p k)).length=arr (RK g p r (k+1)) g.es.length:=by
 refine uB (f:=fun _=>0) h hk (fun u w e D8=> ?_) fun e he=>by rw [RK,if_neg he]
 obtain ⟨a,b⟩:=nE h hk D8
 rw [RK,if_pos a,b]
theorem x7 (hI:jV g=true):∀ {k:Nat},k<g.n.toNat→∀t∈(fK g p k).row,0≤t.1
 |0,_,t,ht=>by cases ht
 |k+1,hk,t,ht=>by
  have hm:=aE h.1
  have ih:=x7 hI (k:=k) (by omega)
  obtain ⟨hi,_,_⟩:=de hm h.2.1 (k:=k) (by omega) fun j hj=>h.2.2 j (by omega)
  obtain ⟨A,X,C,hr,_,_,_,hs⟩:=iy hm hi.togI (h.2.2 k (by omega))
  have hO:bF p (aq p k)≠ []:=fun h1=>by
   have:=(eo h hI (aJ h.2.1 (show k<g.n.toNat by omega))).1 h1
   have:=dM h.2.1 (show k<g.n.toNat by omega) (by omega) this
   omega
  have ht:t∈(aA g (fK g p k) (aq p k) (bF p (aq p k))).2.row:=ht
  rw [hs] at ht
  simp only [List.mem_append] at ht
  rcases ht with (ht|ht)|ht
  ·exact ih t (by rw [hr];simp [ht])
  ·unfold aL at ht
   rw [if_neg hO] at ht
   obtain ⟨i,hi2,rfl⟩:=List.mem_map.1 ht
   exact (iX h (show k<g.n.toNat by omega) hi2).1.1
  ·exact ih t (by rw [hr];simp [ht])
theorem zm (hI:jV g=true) {k:Nat} (hk:k<g.n.toNat):iJ (dU g p k)=dU g p k:=by
 have hm:=aE h.1
 obtain ⟨hi,_,_⟩:=de hm h.2.1 (k:=k) (by omega) fun j hj=>h.2.2 j (by omega)
 obtain ⟨A,X,C,hr,_,_,_,hs⟩:=iy hm hi.togI (h.2.2 k hk)
 have e:dU g p k=X:=by unfold dU;rw [hs]
 rw [e]
 refine List.filter_eq_self.2 fun t ht=>decide_eq_true (x7 h hI hk t ?_)
 rw [hr];simp [ht]
theorem D9 (hI:jV g=true) {k:Nat} (hk:k<g.n.toNat):cH g p (aq p k)=(dU g p k).map (·.1):=by
 unfold cH
 rw [mh h.2.1 (Nat.le_refl _) hk,zm h hI hk]
end
section
variable (g:Gr) (p:Pl)
def fy:Nat→List Int
 |0=>bF p (aq p 0)
 |j+1=>if bF p (aq p (j+1))= [] then fy j else (fy j).take (dA (fy j) (er g p (aq p (j+1)))).toNat++bF p (aq p (j+1))++(fy j).drop ((dA (fy j) (er g p (aq p (j+1)))).toNat+(cH g p (aq p (j+1))).length)
def lP:Nat→List Int
 |0=> [0]++eY 1 ((bF p (aq p 0)).length - 1)++ [-1]
 |j+1=>(lP j).take ((dA (fy g p j) (er g p (aq p (j+1)))).toNat+1)++eY (cK p (j+1)) ((bF p (aq p (j+1))).length - 1)++(lP j).drop ((dA (fy g p j) (er g p (aq p (j+1)))).toNat+(cH g p (aq p (j+1))).length)
def s5 (k:Nat):List Int:=((cH g p (aq p k)).dropLast).map (RK g p (-1) k)
def yq:Nat→List Int
 |0=> [aq p (g.n.toNat - 1)]
 |k+1=>lN (yq k) (s5 g p k) (aq p k) (s5 g p k).length++List.replicate ((bF p (aq p k)).length - 1) 0
end
section
variable {g:Gr} {p:Pl}
theorem qN:∀ {k:Nat},(yq g p k).length=cK p k
 |0=>rfl
 |k+1=>by rw [yq,List.length_append,pU,List.length_replicate,qN,cK]
variable (h:bM g p)
include h
theorem Ea {A I C:List Int} (b8:(A++I++C).Nodup) (hI:I≠ []):dA (A++I++C) (I.headD 0)=(A.length:Int):=by
 obtain ⟨a,u,rfl⟩:=gN hI
 obtain ⟨k,h1,h2,h3⟩:=dy (l:=A++a::u++C) (x:=a) (by simp)
 have e:A++a::u++C=A++a::(u++C):=by simp
 have h4:(A++a::u++C).getD A.length 0=a:=by rw [e];exact oX
 show dA _ a=_
 rw [h1]
 have hA:A.length<(A++a::u++C).length:=by simp
 rw [List.getD_eq_getElem?_getD,List.getElem?_eq_getElem h2] at h3
 rw [List.getD_eq_getElem?_getD,List.getElem?_eq_getElem hA] at h4
 simp only [Option.getD_some] at h3 h4
 have:=(List.getElem_inj b8 (h₀:=h2) (h₁:=hA)).1 (h3.trans h4.symm)
 omega
theorem Eb {k:Nat} (hk:k≤g.n.toNat):(WK g p k).Nodup:=by
 have hm:=aE h.1
 obtain ⟨hi,_,_⟩:=de hm h.2.1 (k:=k) (by omega) fun j hj=>h.2.2 j (by omega)
 exact D2 hi
theorem Ec {r:Int} {k:Nat} (hk:k<g.n.toNat) (hO:bF p (aq p k)≠ []) {j:Nat} (h1:k+1≤j) (h2:j≤g.n.toNat):(bF p (aq p k)).map (RK g p r j)=eY (cK p k) ((bF p (aq p k)).length - 1)++ [if k=0 then r else RK g p r k (mM g p (aq p k))]:=by
 obtain ⟨v,b,hv⟩:=c7 hO
 have e1:((bF p (aq p k)).length - 1)=v.length:=by rw [hv];simp
 rw [e1]
 conv=>lhs;rw [hv]
 rw [List.map_append,List.map_cons,List.map_nil,sY h hk hv h1 h2]
 congr 1
 refine List.ext_getElem? fun i=> ?_
 by_cases hi:i<v.length
 ·rw [List.getElem?_map,List.getElem?_eq_getElem hi,eY,List.getElem?_map,List.getElem?_range hi,Option.map_some,Option.map_some]
  have hs:v=v.take i++v[i]::v.drop (i+1):=by simp
  obtain ⟨c,w,NB⟩:∃c w,v.drop (i+1)++ [b]=c::w:=by
   cases hd:v.drop (i+1) with
   |nil=>exact ⟨b, [],rfl⟩
   |cons c w=>exact ⟨c,w++ [b],rfl⟩
  have h3:bF p (aq p k)=v.take i++v[i]::c::w:=by
   rw [hv]
   conv=>lhs;rw [hs]
   rw [List.append_assoc,List.cons_append,NB]
  rw [iW h hk h3 h1 h2,List.length_take,Nat.min_eq_left (by omega)]
  congr 1
 ·rw [List.getElem?_eq_none (by simpa using hi),List.getElem?_eq_none (by rw [jY];omega)]
theorem vO (hI:jV g=true):∀ {j:Nat},j+1<g.n.toNat→fy g p j=WK g p (j+1)∧lP g p j=0::(WK g p (j+1)).map (RK g p (-1) (j+1))∧WK g p (j+1)≠ []
 |0,hj=>by
  have hO:bF p (aq p 0)≠ []:=fun h1=>by
   have:=(eo h hI (aJ h.2.1 (show 0<g.n.toNat by omega))).1 h1
   have:=dM h.2.1 (show 0<g.n.toNat by omega) (by omega) this
   omega
  refine ⟨(sZ h (by omega)).symm, ?_,by rw [sZ h (by omega)];exact hO⟩
  rw [sZ h (by omega),Ec h (by omega) hO (Nat.le_refl _) (by omega),if_pos rfl]
  rfl
 |j+1,hj=>by
  obtain ⟨i1,i2,i3⟩:=vO hI (j:=j) (by omega)
  obtain ⟨A,C,e1,hne,e2⟩:=mu h (k:=j+1) (by omega) (by omega)
  have hO:bF p (aq p (j+1))≠ []:=fun h1=>by
   have:=(eo h hI (aJ h.2.1 (show j+1<g.n.toNat by omega))).1 h1
   have:=dM h.2.1 (show j+1<g.n.toNat by omega) (by omega) this
   omega
  have b8:=Eb h (k:=j+1) (by omega)
  have IP:dA (WK g p (j+1)) (er g p (aq p (j+1)))=(A.length:Int):=by
   rw [e1] at b8 ⊢
   exact Ea h b8 hne
  have zj:∀a∈WK g p (j+1),RK g p (-1) (j+1+1) a=RK g p (-1) (j+1) a:=fun a ha=>by
   obtain ⟨i,hi,e⟩:=qM h (by omega) ha
   rw [gB h (by omega) e (j:=j+1+1) (by omega) (by omega),gB h (by omega) e (j:=j+1) (by omega) (by omega)]
  refine ⟨?_, ?_,by rw [e2];simp [hO]⟩
  ·rw [fy,if_neg hO,i1,IP,Int.toNat_natCast,e2]
   congr 1
   ·congr 1
    rw [e1,List.append_assoc,List.take_left]
   ·rw [e1, ← List.length_append,List.drop_left]
  ·rw [lP,i1,i2,IP,Int.toNat_natCast,List.take_succ_cons,e2]
   have e3:(WK g p (j+1)).map (RK g p (-1) (j+1))=A.map (RK g p (-1) (j+1))++((cH g p (aq p (j+1))).map (RK g p (-1) (j+1))++C.map (RK g p (-1) (j+1))):=by rw [e1];simp
   have hA:A.map (RK g p (-1) (j+1+1))=A.map (RK g p (-1) (j+1)):=List.map_congr_left fun a ha=>zj a (by rw [e1];simp [ha])
   have hC:C.map (RK g p (-1) (j+1+1))=C.map (RK g p (-1) (j+1)):=List.map_congr_left fun a ha=>zj a (by rw [e1];simp [ha])
   rw [List.map_append,List.map_append,hA,hC,Ec h (by omega) hO (Nat.le_refl _) (by omega),if_neg (by omega)]
   rw [e3,List.take_append_of_le_length (by simp),List.take_of_length_le (by simp)]
   obtain ⟨u,a,hu⟩:=c7 hne
   have hl:(cH g p (aq p (j+1))).length=u.length+1:=by rw [hu];simp
   rw [hl,show A.length+(u.length+1)=(A.length+u.length)+1 by omega,List.drop_succ_cons]
   have e4:(A.map (RK g p (-1) (j+1))++((cH g p (aq p (j+1))).map (RK g p (-1) (j+1))++C.map (RK g p (-1) (j+1)))).drop (A.length+u.length)=RK g p (-1) (j+1) (mM g p (aq p (j+1)))::C.map (RK g p (-1) (j+1)):=by
    rw [lK h hu,hu]
    have:A.map (RK g p (-1) (j+1))++((u++ [a]).map (RK g p (-1) (j+1))++C.map (RK g p (-1) (j+1)))=(A++u).map (RK g p (-1) (j+1))++(RK g p (-1) (j+1) a::C.map (RK g p (-1) (j+1))):=by simp
    rw [this,show A.length+u.length=((A++u).map (RK g p (-1) (j+1))).length by simp,List.drop_left]
   rw [e4]
   simp
theorem fz {A B:List Int} (h:B≠ []):(A++B).dropLast=A++B.dropLast:=by
 obtain ⟨u,a,rfl⟩:=c7 h
 rw [← List.append_assoc,List.dropLast_concat,List.dropLast_concat]
theorem Az (hI:jV g=true):∀ {k:Nat},1≤k→k<g.n.toNat→∀a∈(WK g p k).dropLast,1≤RK g p (-1) k a∧RK g p (-1) k a<cK p k
 |0,h1,_,_,_=>by omega
 |k+1,_,hk,a,ha=>by
  have hO:bF p (aq p k)≠ []:=fun h1=>by
   have:=(eo h hI (aJ h.2.1 (show k<g.n.toNat by omega))).1 h1
   have:=dM h.2.1 (show k<g.n.toNat by omega) (by omega) this
   omega
  have hc:cK p (k+1)=cK p k+((bF p (aq p k)).length - 1):=rfl
  have Ji:0<cK p k:=pS
  have hnew:∀b∈(bF p (aq p k)).dropLast,1≤RK g p (-1) (k+1) b∧RK g p (-1) (k+1) b<cK p (k+1):=fun b hb=>by
   obtain ⟨v,c,hv⟩:=c7 hO
   rw [hv,List.dropLast_concat] at hb
   obtain ⟨u,w,D8⟩:=List.append_of_mem hb
   obtain ⟨c',w',NB⟩:∃c' w',w++ [c]=c'::w':=by
    cases w with
    |nil=>exact ⟨c, [],rfl⟩
    |cons d w=>exact ⟨d,w++ [c],rfl⟩
   have h3:bF p (aq p k)=u++b::c'::w':=by rw [hv,D8, ← NB];simp
   rw [iW h (show k<g.n.toNat by omega) h3 (Nat.le_refl _) (by omega)]
   have:(bF p (aq p k)).length=u.length+(w'.length+2):=by rw [h3];simp
   omega
  by_cases h0:k=0
  ·subst h0
   rw [sZ h (by omega)] at ha
   exact hnew a ha
  ·obtain ⟨A,C,e1,hne,e2⟩:=mu h h0 (show k<g.n.toNat by omega)
   have ih:=Az hI (k:=k) (by omega) (by omega)
   have zj:∀a∈WK g p k,RK g p (-1) (k+1) a=RK g p (-1) k a:=fun a ha=>by
    obtain ⟨i,hi,e⟩:=qM h (by omega) ha
    rw [gB h (by omega) e (j:=k+1) (by omega) (by omega),gB h (by omega) e (j:=k) (by omega) (by omega)]
   have old:∀b∈(WK g p k).dropLast,1≤RK g p (-1) (k+1) b∧RK g p (-1) (k+1) b<cK p (k+1):=fun b hb=>by
    rw [zj b ((List.dropLast_sublist _).subset hb)]
    have:=ih b hb
    omega
   rw [e1] at old zj
   rw [e2] at ha
   by_cases hC:C= []
   ·subst hC
    rw [List.append_nil] at ha old
    rw [fz h hO] at ha
    rw [fz h hne] at old
    rcases List.mem_append.1 ha with ha|ha
    ·exact old a (by simp [ha])
    ·exact hnew a ha
   ·rw [fz h hC] at ha old
    rcases List.mem_append.1 ha with ha|ha
    ·rcases List.mem_append.1 ha with ha|ha
     ·exact old a (by simp [ha])
     ·obtain ⟨v,b,hv⟩:=c7 hO
      rw [hv,List.mem_append,List.mem_singleton] at ha
      rcases ha with ha|rfl
      ·exact hnew a (by rw [hv,List.dropLast_concat];exact ha)
      ·obtain ⟨u,c,hu⟩:=c7 hne
       rw [sY h (show k<g.n.toNat by omega) hv (Nat.le_refl _) (by omega),if_neg h0,lK h hu, ← zj c (by rw [hu];simp)]
       exact old c (by rw [hu];simp)
    ·exact old a (by simp [ha])
theorem F5 (hI:jV g=true) {k:Nat} (hk:k<g.n.toNat):∀f∈s5 g p k,0≤f∧f<(yq g p k).length:=by
 intro f hf
 rw [qN]
 obtain ⟨a,ha,rfl⟩:=List.mem_map.1 hf
 have Qv:cH g p (aq p k)≠ []:=fun h0=>by rw [h0] at ha;simp at ha
 have wT:=As h hk Qv
 obtain ⟨A,C,e1,hne,_⟩:=mu h wT hk
 have:=Az h hI (k:=k) (by omega) hk a (by
  rw [e1]
  by_cases hC:C= []
  ·subst hC;rw [List.append_nil,fz h hne];simp [ha]
  ·rw [fz h hC];simp [(List.dropLast_sublist _).subset ha])
 omega
theorem Ee (hI:jV g=true) {j:Nat} (hj:j+1<g.n.toNat):∃a:Nat,dA (fy g p j) (er g p (aq p (j+1)))=a∧0<(cH g p (aq p (j+1))).length∧a+(cH g p (aq p (j+1))).length≤(fy g p j).length∧
 (lP g p j).length=(fy g p j).length+1∧(lP g p j).getD a 0=LK g p (j+1) (er g p (aq p (j+1)))∧(lP g p j).getD (a+(cH g p (aq p (j+1))).length) 0=RK g p (-1) (j+1) (mM g p (aq p (j+1)))∧
 ((lP g p j).take (a+(cH g p (aq p (j+1))).length)).drop (a+1)=s5 g p (j+1):=by
 obtain ⟨i1,i2,i3⟩:=vO h hI hj
 obtain ⟨A,C,e1,hne,e2⟩:=mu h (k:=j+1) (by omega) hj
 have b8:=Eb h (k:=j+1) (by omega)
 have IP:dA (WK g p (j+1)) (er g p (aq p (j+1)))=(A.length:Int):=by
  rw [e1] at b8 ⊢
  exact Ea h b8 hne
 have hlk:=(zi (r:= -1) h hI (k:=j+1) (by omega) hj i3).1
 obtain ⟨u,c,hu⟩:=c7 hne
 obtain ⟨c0,u0,FQ⟩:=gN hne
 have hl:(cH g p (aq p (j+1))).length=u.length+1:=by rw [hu];simp
 rw [i1,i2]
 refine ⟨A.length,IP,by omega,by rw [e1];simp,by simp, ?_, ?_, ?_⟩
 ·rw [e1,cP,cP] at hlk
  have h1:=hlk.1.2
  rw [FQ] at h1
  rw [pT h FQ,h1.1,e1]
  rcases List.eq_nil_or_concat A with hA|⟨A',t,hA⟩
  ·subst hA;rfl
  ·rw [List.concat_eq_append] at hA
   subst hA
   rw [fN]
   have:(0::(A'++ [t]++cH g p (aq p (j+1))++C).map (RK g p (-1) (j+1)))=(0::A'.map (RK g p (-1) (j+1)))++RK g p (-1) (j+1) t::((cH g p (aq p (j+1))++C).map (RK g p (-1) (j+1))):=by simp
   rw [this]
   have h2:(A'++ [t]).length=(0::A'.map (RK g p (-1) (j+1))).length:=by simp
   rw [h2];exact oX
 ·rw [lK h hu,e1,hl]
  have:(0::(A++cH g p (aq p (j+1))++C).map (RK g p (-1) (j+1)))=(0::(A++u).map (RK g p (-1) (j+1)))++RK g p (-1) (j+1) c::(C.map (RK g p (-1) (j+1))):=by rw [hu];simp
  rw [this]
  have h2:A.length+(u.length+1)=(0::(A++u).map (RK g p (-1) (j+1))).length:=by simp;omega
  rw [h2];exact oX
 ·rw [e1,hl]
  have:(0::(A++cH g p (aq p (j+1))++C).map (RK g p (-1) (j+1)))=(0::A.map (RK g p (-1) (j+1)))++(u.map (RK g p (-1) (j+1))++(RK g p (-1) (j+1) c::(C.map (RK g p (-1) (j+1))))):=by rw [hu];simp
  rw [this,List.take_append,List.drop_append]
  have h2:(0::A.map (RK g p (-1) (j+1))).length=A.length+1:=by simp
  rw [h2,List.take_of_length_le (by rw [h2];omega),List.drop_of_length_le (by rw [h2];omega),h2]
  rw [show A.length+(u.length+1) - (A.length+1)=u.length by omega,Nat.sub_self,List.drop_zero,List.nil_append]
  rw [List.take_append_of_le_length (by simp),List.take_of_length_le (by simp)]
  unfold s5
  rw [hu,List.dropLast_concat]
end
end Go.Ab
end
section
namespace Go.Ab
open Go.Proofs
attribute [local congr] ACall.congr gd.congr Nx.congr
set_option maxRecDepth 10000
set_option maxHeartbeats 8000000
def swapT (l:List It) (k:Nat):List It:=(List.range l.length).map fun p=>if p<k∨l.length - 1<p+k then l.getD (l.length - 1 - p) (0,0,0) else l.getD p (0,0,0)
def OC (rs:List Int) (l:List It):Int:=match l.find? (fun t=>decide (t.2.2∈rs)) with
 |some t=>t.2.2
 |none=>rs.headD (-1)
end Go.Ab
end
section
namespace Go.Ab
open Go.Proofs
attribute [local congr] ACall.congr gd.congr Nx.congr
set_option maxRecDepth 10000
set_option maxHeartbeats 8000000
def RX (b:Bool) (g:Gr) (p:Pl):List Int × List Int × Int:=
 if (bK b g p).2.1=0∧jV g=true then (Ag g p false g.n.toNat,Ag g p true g.n.toNat,0) else ([], [],1)
end Go.Ab
end
section
namespace Go.Ab
open Go.Proofs
attribute [local congr] ACall.congr gd.congr Nx.congr
set_option maxRecDepth 10000
set_option maxHeartbeats 8000000
theorem nG {b:Bool} {g:Gr} {p:Pl} (hr:b=true↔(bZ g).1=0∧bw g p) (h:bM g p):bK b g p=((dz g p g.n.toNat,lG g p),(0,0)):=by
 obtain rfl:b=true:=hr.2 ⟨h.1,h.2.1⟩
 unfold bK
 rw [if_neg (by simp),eL.2 h.2.2]
 rfl
theorem Qw (g:Gr) (p:Pl):∃b:Bool,(b=true↔(bZ g).1=0∧bw g p):=by
 by_cases h:(bZ g).1=0∧bw g p
 ·exact ⟨true,by simp [h]⟩
 ·exact ⟨false,by simp [h]⟩
end Go.Ab
end
section
namespace Go.Ab
open Go.Proofs
attribute [local congr] ACall.congr gd.congr Nx.congr
set_option maxRecDepth 60000
set_option maxHeartbeats 8000000
structure Fc where
 L:List Int
 R:List Int
 lo:List Int
 hi:List Int
def mC (g:Gr) (p:Pl) (f:Int):Int:=if f= -1 then (cK p g.n.toNat:Int) else f
def F6 (g:Gr) (p:Pl):Fc:=⟨arr (LK g p g.n.toNat) g.es.length,(arr (RK g p (-1) g.n.toNat) g.es.length).map (mC g p),iC p g.n.toNat++ [aq p 0],yq g p g.n.toNat++ [aq p (g.n.toNat - 1)]⟩
def zn:Fc:=⟨[], [], [], []⟩
def E3 (b:Bool) (g:Gr) (p:Pl):Fc × Int:=if ((bK b g p).2.1=0∧jV g=true)∧0<g.es.length then (F6 g p,0) else (zn,1)
def pV (f:Fc):AV:= .agg [.d (sI f.L), .d (sI f.R), .d (sI f.lo), .d (sI f.hi)]
def lQ (l:List Int) (f:Int→Int) (j:Nat):List Int:=(l.take j).map f++l.drop j
theorem Ef {l:List Int} {f:Int→Int} {j:Nat} :(lQ l f j).length=l.length:=by
 simp only [lQ,List.length_append,List.length_map,List.length_take,List.length_drop];omega
theorem uC {l:List Int} {f:Int→Int} {j:Nat} (h:j<l.length):lQ l f (j+1)=(lQ l f j).set j (f (l.getD j 0)):=by
 have h1:((l.take j).map f).length=j:=by simp;omega
 have e:l.getD j 0=l[j]:=by rw [List.getD_eq_getElem?_getD,List.getElem?_eq_getElem h];rfl
 unfold lQ
 have e2:l.take (j+1)=l.take j++ [l[j]]:=by rw [List.take_add_one,List.getElem?_eq_getElem h];rfl
 rw [List.drop_eq_getElem_cons h,List.set_append,h1,if_neg (by omega),Nat.sub_self,List.set_cons_zero,e2,e,List.map_append,List.append_assoc]
 rfl
theorem AA {l:List Int} {f:Int→Int} {j:Nat} (h:j<l.length):(lQ l f j).getD j 0=l.getD j 0:=by
 have h1:((l.take j).map f).length=j:=by simp;omega
 unfold lQ
 rw [List.getD_eq_getElem?_getD,List.getElem?_append_right (by omega),h1,Nat.sub_self,List.drop_eq_getElem_cons h,List.getD_eq_getElem?_getD,List.getElem?_eq_getElem h];rfl
theorem Eg {l:List Int} {f:Int→Int} :lQ l f l.length=l.map f:=by simp [lQ]
theorem BQ {l:List Int} {f:Int→Int} {j:Nat} (h:j<l.length) (hf:f (l.getD j 0)=l.getD j 0):lQ l f (j+1)=lQ l f j:=by
 rw [uC h,hf]
 refine List.ext_getElem? fun i=> ?_
 rw [List.getElem?_set]
 split
 ·rename_i e;subst e
  split
  ·have:=AA (l:=l) (f:=f) h
   rename_i hl
   rw [List.getD_eq_getElem?_getD,List.getElem?_eq_getElem hl] at this
   rw [List.getElem?_eq_getElem hl]
   simpa using this.symm
  ·rename_i hl;rw [List.getElem?_eq_none (by omega)]
 ·rfl
theorem BR {g:Gr} {p:Pl} (h:bM g p):0<(bG (·.2) g).length∧(bG (·.2) g).getD 0 0=aq p 0:=by
 have hn:=aU (aE h.1)
 have h0:=aJ h.2.1 (k:=0) (by omega)
 have hm:aq p 0∈bG (·.2) g:=mg.2 ⟨h0,fS h⟩
 have hl:=List.length_pos_of_mem hm
 refine ⟨hl, ?_⟩
 have:=mg.1 (aV (l:=bG (·.2) g) (m:=0) (d:=0) hl)
 exact oL h.1 this.1 h0 this.2 (fS h)
theorem BS {g:Gr} {p:Pl} (h:bM g p) (hI:jV g=true):0<(bG (·.1) g).length∧(bG (·.1) g).getD 0 0=aq p (g.n.toNat - 1):=by
 have hn:=aU (aE h.1)
 have h0:=aJ h.2.1 (k:=g.n.toNat - 1) (by omega)
 have hm:aq p (g.n.toNat - 1)∈bG (·.1) g:=mj.2 ⟨h0,(oO h.2.1 h0.1 h0.2).2 (pQ h).1⟩
 have hl:=List.length_pos_of_mem hm
 refine ⟨hl, ?_⟩
 have:=mj.1 (aV (l:=bG (·.1) g) (m:=0) (d:=0) hl)
 exact (eo h hI this.1).1 ((oO h.2.1 this.1.1 this.1.2).1 this.2)
theorem GV {g:Gr} {p:Pl} (h:bM g p):∀ {k:Nat},k≤g.n.toNat→cK p k≤1+k*g.es.length
 |0,_=>by simp [cK]
 |k+1,hk=>by
  have:=GV h (k:=k) (by omega)
  have hx:=aJ h.2.1 (show k<g.n.toNat by omega)
  have:=iS h.2.1 hx.1 hx.2
  rw [cK,Nat.add_mul];omega
theorem qp {g:Gr} {p:Pl} (h:bM g p) {k:Nat} (hk:k≤g.n.toNat):cK p k≤100000∧(∀x:Int,(bF p x).length≤100000∨¬nw g x):=by
 have hn:=aU (aE h.1)
 have h1:=GV h hk
 have h2:k*g.es.length≤64*128:=Nat.mul_le_mul (by omega) (by omega)
 refine ⟨by omega,fun x=> ?_⟩
 by_cases hx:nw g x
 ·have:=iS h.2.1 hx.1 hx.2;exact .inl (by omega)
 ·exact .inr hx
theorem BT (g:Gr) (p:Pl) (hp:oR p) (hrun:bM g p) (hI:jV g=true) (hm0:0<g.es.length) (b:Bool) (hr:b=true↔(bZ g).1=0∧bw g p):
 Spec Tryz.prog 11 (Args [eG g,ePl p]) [] (.tup [pV (F6 g p),eN 0]) []:=by
 have hm:=aE hrun.1
 have hn:=aU hm
 have hle:=bQ hrun.2.1
 have hO:=ji g (by omega) p hp b hr
 have Ie:=sS g (by omega)
 have Qx:=fV g hm
 have Qy:=dY g hm
 have Qz:=rX g hm
 obtain ⟨hs1,yG⟩:=BR hrun
 obtain ⟨RY,hs4⟩:=BS hrun hI
 rw [nG hr hrun] at hO
 simp only at hO
 rw [hI] at Ie
 have hb0:decide ((g.es.length:Int)=0)=false:=decide_eq_false (by omega)
 have hn2:1<g.n.toNat:=by
  refine Decidable.byContradiction fun hc=> ?_
  have ht:=bX hm (i:=0) hm0
  have hh:=cW hm (i:=0) hm0
  obtain ⟨j,hj,_⟩:=sX hrun (e:=0) (by omega) (k:=0) (by omega) (by
   obtain ⟨k,hk,e⟩:=fu hrun.2.1 hh.1 hh.2
   obtain rfl:k=0:=by omega
   exact e.symm)
  omega
 obtain ⟨s0,hs0⟩:∃s:Nat,aq p 0=s:=by have:=aJ hrun.2.1 (k:=0) (by omega);exact ⟨(aq p 0).toNat,by omega⟩
 have NC:s0<p.outs.length:=by have:=aJ hrun.2.1 (k:=0) (by omega);have:=hrun.2.1.1;omega
 have th:=fq NC
 have ND:p.outs.getD s0 []=bF p (aq p 0):=by unfold bF;rw [hs0,Int.toNat_natCast]
 rw [ND] at th
 have QA:=iS hrun.2.1 (aJ hrun.2.1 (k:=0) (by omega)).1 (aJ hrun.2.1 (k:=0) (by omega)).2
 have D6:=uz (aq p 0) 0 (-1) (bF p (aq p 0)) (.sl 1 []) (sI [0, -1]) (arr (LK g p 0) g.es.length) (arr (RK g p (-1) 0) g.es.length) [aq p 0] [aq p (g.n.toNat - 1)] (by omega) (fun i hi=>by rw [ee];exact (iX hrun (by omega) hi).1) (by rw [ee,ee]) (by simp) (by simp)
 have OD:=KC hrun (k:=0) (by omega)
 have OE:=KE (r:= -1) hrun (k:=0) (by omega)
 rw [if_pos rfl] at OD OE
 have KF:cH g p (aq p 0)= []:=by
  have:=jW hrun (aJ hrun.2.1 (k:=0) (by omega))
  rw [fS hrun] at this
  exact List.eq_nil_of_length_eq_zero this
 have hi1:yq g p 1= [aq p (g.n.toNat - 1)]++List.replicate ((bF p (aq p 0)).length - 1) 0:=by
  have:s5 g p 0= []:=by unfold s5;rw [KF];rfl
  show lN (yq g p 0) (s5 g p 0) (aq p 0) (s5 g p 0).length++_=_
  rw [this];rfl
 have Eh:iC p 1= [aq p 0]++List.replicate ((bF p (aq p 0)).length - 1) (aq p 0):=rfl
 have hc1:([aq p 0]:List Int).length=cK p 0:=rfl
 rw [hc1,OD,OE, ← hi1, ← Eh] at D6
 have FY:∀f:Int→Int,(∀e,f e=0)→List.replicate g.es.length [D.sc (.int .i64 0)]=(arr f g.es.length).map rI:=fun f hf=>by
  refine List.ext_getElem? fun i=> ?_
  simp only [arr,List.getElem?_replicate,List.getElem?_map]
  by_cases hi:i<g.es.length
  ·rw [if_pos hi,List.getElem?_range hi];simp [hf,rI]
  ·rw [if_neg hi,List.getElem?_eq_none (by simpa using hi)];rfl
 have iY:=FY (LK g p 0) fun _=>rfl
 have NF:=lg (bF p (aq p 0)) (by omega)
 have NG:=jl [0, -1] (eY (cK p 0) ((bF p (aq p 0)).length - 1)) 1 1 (by simp) (by simp) (by rw [jY];omega)
 have HB:List.take 1 [(0:Int), -1]++eY (cK p 0) ((bF p (aq p 0)).length - 1)++List.drop 1 [(0:Int), -1]=lP g p 0:=rfl
 rw [HB] at NG
 have QB:RK g p (-1) 0=LK g p 0:=by funext e;rfl
 rw [QB] at D6
 have FH:fy g p 0=bF p (aq p 0):=rfl
 have NF:Spec Tryz.prog 44 (Args [.d (sI (bF p (s0:Int)))]) [] (.d (sI (fy g p 0))) []:=by
  rw [FH, ← hs0];exact NF
 generalize OF:arr (LK g p 0) g.es.length=A0 at D6 iY
 have tF:=jY (c:=cK p 0) (k:=(bF p (aq p 0)).length - 1)
 generalize eY (cK p 0) ((bF p (aq p 0)).length - 1)=gs at D6 NG tF
 unfold IS IT at D6
 have BU:List.drop 1 (List.map rI p.ord)=(p.ord.drop 1).map rI:=by rw [List.map_drop]
 have hdl:(p.ord.drop 1).length=g.n.toNat - 1:=by rw [List.length_drop];omega
 have Bz:List.take p.ord.length (List.map rI p.ord)=List.map rI p.ord:=List.take_of_length_le (by simp)
 generalize LH:g.n.toNat - 1=N1 at hdl
 (refine Spec.hd (C:=T.cfg [67] []) (rs:= [.c 4 32, .t 5]) (T.ai _ _) Tryz.func11 rfl rfl Tryz.ntmps11 Tryz.results11 (by simp [AObj.isNest]) (by simp [AObj.isNest]) (by kernel_rfl) T.mixed fun X hX hP hC aK cw=> ?_)
 repeat' (first|(show cl _ (.seq (.region 8 _ _) _) _ _;(refine oo 54 0 1 rfl rfl rfl ?_;simp only [List.set_cons_zero,List.set_cons_succ,go_sem,simprocAttr,hb0,yG,hs4,iY,hs0,th,BU,hdl,rI]);(refine cF hX 52 rfl ?_;simp only [go_sem,simprocAttr,hb0,yG,hs4,iY,hs0,th,BU,hdl,rI]))|refine Rn.p ?_|(with_reducible apply And.intro)|((first|(refine hK _ ?_;clear hK K)|with_reducible intro K hK|refine Rs.p ?_|((with_reducible first|apply oP|apply oQ);exact rfl)|refine aa hX hC hP (hO) rfl rfl rfl (by simp only [go_sem,simprocAttr,hb0,yG,hs4,iY,hs0,th,BU,hdl,rI]) rfl ?_|refine aa hX hC hP (Ie) rfl rfl rfl (by simp only [go_sem,simprocAttr,hb0,yG,hs4,iY,hs0,th,BU,hdl,rI]) rfl ?_|refine aa hX hC hP (Qx) rfl rfl rfl (by simp only [go_sem,simprocAttr,hb0,yG,hs4,iY,hs0,th,BU,hdl,rI]) rfl ?_|refine aa hX hC hP (Qy) rfl rfl rfl (by simp only [go_sem,simprocAttr,hb0,yG,hs4,iY,hs0,th,BU,hdl,rI]) rfl ?_|refine aa hX hC hP (Qz) rfl rfl rfl (by simp only [go_sem,simprocAttr,hb0,yG,hs4,iY,hs0,th,BU,hdl,rI]) rfl ?_|(refine az hX hC hP [(10000,54),(10001,59),(10002,63),(10003,65),(10004,67),(10005,300),(10006,301)] (D6) rfl rfl rfl ?_ ?_ ?_ ?_ ?_ ?_ ?_ ?_ ?_ ?_ ?_ ?_ ?_ ?_;(focus (simp only [go_sem,simprocAttr,hb0,yG,hs4,iY,hs0,th,BU,hdl,rI];done));(iterate 12 (focus (simp [go_sem,simprocAttr,hb0,yG,hs4,iY,hs0,th,BU,hdl,rI];done)));try simp only [List.map_cons,List.map_nil])|refine aa hX hC hP (NF) rfl rfl rfl (by simp only [go_sem,simprocAttr,hb0,yG,hs4,iY,hs0,th,BU,hdl,rI]) rfl ?_|(refine bJ hX hC hP (NG) rfl rfl rfl ?_ ?_ rfl ?_;iterate 2 (focus (simp only [go_sem,simprocAttr,hb0,yG,hs4,iY,hs0,th,BU,hdl,rI];done))));try simp only [go_sem,simprocAttr,hb0,yG,hs4,iY,hs0,th,BU,hdl,rI])|((with_reducible refine oD ?_ ?_);kernel_rfl)|((with_reducible intro h);try simp only [go_sem,simprocAttr,hb0,yG,hs4,iY,hs0,th,BU,hdl,rI] at h)|omega|intro h)
 refine ag (fun j:Nat=>j≤N1) (fun j=>⟨[(3, .ptr 3 0),(4, .ptr 4 0),(6, .d (.sl 1 (vT (dz g p g.n.toNat)))),(10,eN s0),(11,eN (aq p N1)),(12, .ptr 54 0),(106, .d (sI (p.ord.drop 1))),(107,eN N1),(108,eN j)], [(54, .box [.d (sI (fy g p j)), .d (sI (lP g p j)), .ref 59, .ref 63, .ref 300, .ref 301]),(59, .own 3 1 ((arr (LK g p (j+1)) g.es.length).map rI)),(63, .own 3 1 ((arr (RK g p (-1) (j+1)) g.es.length).map rI)),(300, .tip 3 1 ((iC p (j+1)).map rI)),(301, .own 3 1 ((yq g p (j+1)).map rI)),(3, .box [.d (sI p.ord), .d (.sl 1 (vI p.outs))]),(4, .box [.nil 3, .nil 3, .nil 3, .nil 3])]⟩) (fun j=>N1 - j) 0 (by omega) ?_ ?_
 ·refine Le.of ?_ ?_<;>simp [go_sem,simprocAttr,LH,Bz]
  omega
 rintro j hj
 rcases Nat.lt_or_ge j N1 with hjl|IK
 ·have hb:decide ((j:Int)<(N1:Int))=true:=decide_eq_true (by omega)
  have hjn:j+1<g.n.toNat:=by omega
  obtain ⟨a,p1,p2,p3,p4,p5,p6,p7⟩:=Ee hrun hI hjn
  have EZ:=aJ hrun.2.1 hjn
  have hx:(p.ord.drop 1).getD j 0=aq p (j+1):=by
   rw [List.getD_eq_getElem?_getD,List.getElem?_drop,Nat.add_comm 1 j]
   show _=p.ord.getD (j+1) 0
   rw [List.getD_eq_getElem?_getD]
  have jq:=fun i hi=>(iX hrun hjn (e:=i) hi).1
  have o7:=iS hrun.2.1 EZ.1 EZ.2
  have KG:=mh hrun.2.1 (Nat.le_refl _) hjn
  have hel:=jU (g:=g) (p:=p) (k:=g.n.toNat)
  have OG:=D9 hrun hI hjn
  have hL:=KC hrun (k:=j+1) hjn
  have hR:=KE (r:= -1) hrun (k:=j+1) hjn
  rw [if_neg (by omega)] at hL hR
  have kQ:iC p (j+1+1)=iC p (j+1)++List.replicate ((bF p (aq p (j+1))).length - 1) (aq p (j+1)):=rfl
  have hhi:yq g p (j+1+1)=lN (yq g p (j+1)) (s5 g p (j+1)) (aq p (j+1)) (s5 g p (j+1)).length++List.replicate ((bF p (aq p (j+1))).length - 1) 0:=rfl
  have NH:=F5 hrun hI hjn
  have lZ:=gq (p:=p) (k:=j+1)
  have x6:=qN (g:=g) (p:=p) (k:=j+1)
  have OH:=(qp hrun (k:=j+1) (by omega)).1
  have zS:fy g p (j+1)=if bF p (aq p (j+1))= [] then fy g p j else (fy g p j).take (dA (fy g p j) (er g p (aq p (j+1)))).toNat++bF p (aq p (j+1))++(fy g p j).drop ((dA (fy g p j) (er g p (aq p (j+1)))).toNat+(cH g p (aq p (j+1))).length):=rfl
  have NI:lP g p (j+1)=(lP g p j).take ((dA (fy g p j) (er g p (aq p (j+1)))).toNat+1)++eY (cK p (j+1)) ((bF p (aq p (j+1))).length - 1)++(lP g p j).drop ((dA (fy g p j) (er g p (aq p (j+1)))).toNat+(cH g p (aq p (j+1))).length):=rfl
  rw [p1,Int.toNat_natCast] at zS NI
  obtain ⟨r1,r2,r3⟩:=vO hrun hI hjn
  have RZ:(fy g p j).length≤10000:=by
   rw [r1]
   have:=eW (m:=(List.range g.es.length).map Int.ofNat) (Eb hrun (k:=j+1) (by omega)) fun e he=>by
    have hi:=de hm hrun.2.1 (k:=j+1) (by omega) fun i hi=>hrun.2.2 i (by omega)
    obtain ⟨t,ht,rfl⟩:=List.mem_map.1 he
    obtain ⟨⟨h1,h2⟩,_⟩:=oW hm hi.1.togI ht
    exact List.mem_map.2 ⟨t.1.toNat,List.mem_range.2 (by omega),by simp;omega⟩
   simp at this
   omega
  have hfr:er g p (aq p (j+1))=((dU g p (j+1)).getD 0 (0,0,0)).1:=by
   unfold er
   rw [OG]
   cases dU g p (j+1)<;>rfl
  rw [OG,List.length_map] at p2 p3 p6 p7 zS NI
  have hIx:=aQ (fy g p j) (er g p (aq p (j+1))) (by omega)
  rw [p1] at hIx
  rw [hfr] at hIx p5
  have kR:=vM (aq p (j+1)) (bF p (aq p (j+1))) (fy g p j) (lP g p j) (arr (LK g p (j+1)) g.es.length) (arr (RK g p (-1) (j+1)) g.es.length) (iC p (j+1)) (yq g p (j+1)) a (a+(dU g p (j+1)).length) (by omega) (by omega) (by omega) (by omega) (by omega) (by rw [p7];exact NH) (by omega) (fun i hi=>by rw [ee];exact jq i hi) (by rw [ee,ee]) (by omega) (by omega)
  rw [p7,p5,p6,lZ, ← hhi, ← kQ, ← zS, ← NI] at kR
  rw [← hfr] at kR
  rw [hL,hR] at kR
  obtain ⟨x,NJ⟩:∃x:Nat,aq p (j+1)=x:=⟨(aq p (j+1)).toNat,by omega⟩
  have kJ:x<p.outs.length:=by have:=hrun.2.1.1;omega
  have hv:=fq kJ
  have hla:p.outs.getD x []=bF p (aq p (j+1)):=by unfold bF;rw [NJ,Int.toNat_natCast]
  rw [hla] at hv
  have Ei:=fun d=>mc (ls:=dz g p g.n.toNat) (k:=x) (by omega) d
  have hex:(dz g p g.n.toNat).getD x []=dU g p (j+1):=by rw [← KG,NJ,Int.toNat_natCast]
  rw [hex] at Ei
  have hvl:(vT (dz g p g.n.toNat)).length=g.n.toNat:=by rw [vT_length,hel]
  have Dg:x<g.n.toNat:=by omega
  obtain ⟨bb,qI⟩:∃bb:Nat,bb=a+(dU g p (j+1)).length:=⟨_,rfl⟩
  have vP:(a:Int)+((dU g p (j+1)).length:Int)=(bb:Int):=by omega
  rw [← qI] at kR
  have kH:bb≤10000:=by omega
  generalize bF p (aq p (j+1))=o at kR hv
  rw [NJ] at kR hx
  generalize dU g p (j+1)=gn at hIx Ei vP p2
  clear qI
  generalize HC:fy g p (j+1)=E2 at kR
  generalize fy g p j=E1 at kR hIx
  generalize hq1:lP g p (j+1)=G2 at kR
  generalize lP g p j=G1 at kR
  generalize xd:arr (LK g p (j+1+1)) g.es.length=A2 at kR
  generalize QC:arr (RK g p (-1) (j+1+1)) g.es.length=B2 at kR
  generalize arr (LK g p (j+1)) g.es.length=A1 at kR
  generalize arr (RK g p (-1) (j+1)) g.es.length=B1 at kR
  generalize QD:iC p (j+1+1)=L2 at kR
  generalize QE:yq g p (j+1+1)=H2 at kR
  generalize iC p (j+1)=L1 at kR
  generalize yq g p (j+1)=H1 at kR
  generalize vT (dz g p g.n.toNat)=VE at Ei hvl
  unfold IS IT at kR
  repeat' (first|(show cl _ (.region 15 _ _) _ _;(refine iO hX 54 4 302 300 rfl rfl rfl (by first|exact .inl rfl|exact .inr rfl) (by decide) (by decide) ?_;simp only [List.set_cons_zero,List.set_cons_succ,go_sem,simprocAttr,hb,hx,hv,Ei,hvl,vP]);(refine iO hX 54 5 303 301 rfl rfl rfl (by first|exact .inl rfl|exact .inr rfl) (by decide) (by decide) ?_;simp only [List.set_cons_zero,List.set_cons_succ,go_sem,simprocAttr,hb,hx,hv,Ei,hvl,vP]))|refine Rn.p ?_|(with_reducible apply And.intro)|((first|(refine hK _ ?_;clear hK K)|with_reducible intro K hK|refine Rs.p ?_|((with_reducible first|apply oP|apply oQ);exact rfl)|refine aa hX hC hP (hIx) rfl rfl rfl (by simp only [go_sem,simprocAttr,hb,hx,hv,Ei,hvl,vP]) rfl ?_|(refine az hX hC hP [(10000,54),(10001,59),(10002,63),(10003,300),(10004,301),(10005,302),(10006,303)] (kR) rfl rfl rfl ?_ ?_ ?_ ?_ ?_ ?_ ?_ ?_ ?_ ?_ ?_ ?_ ?_ ?_;(focus (simp only [go_sem,simprocAttr,hb,hx,hv,Ei,hvl,vP];done));(iterate 12 (focus (simp [go_sem,simprocAttr,hb,hx,hv,Ei,hvl,vP];done)));try simp only [List.map_cons,List.map_nil]));try simp only [go_sem,simprocAttr,hb,hx,hv,Ei,hvl,vP])|((with_reducible refine oD ?_ ?_);kernel_rfl)|((with_reducible intro h);try simp only [go_sem,simprocAttr,hb,hx,hv,Ei,hvl,vP] at h)|omega|intro h)
  refine ⟨j+1,by omega, ?_,by omega⟩
  rw [HC,hq1,xd,QC,QD,QE]
  refine Le.of ?_ ?_<;>simp [go_sem,simprocAttr,hb,hx,hv,Ei,hvl,vP]
 have hb:decide ((j:Int)<(N1:Int))=false:=decide_eq_false (by omega)
 obtain rfl:j=N1:=by omega
 have QF:j+1=g.n.toNat:=by omega
 rw [QF]
 have lZ:=gq (p:=p) (k:=g.n.toNat)
 have x6:=qN (g:=g) (p:=p) (k:=g.n.toNat)
 have OH:=(qp hrun (k:=g.n.toNat) (by omega)).1
 have QG:F6 g p=⟨arr (LK g p g.n.toNat) g.es.length,(arr (RK g p (-1) g.n.toNat) g.es.length).map (mC g p),iC p g.n.toNat++ [(s0:Int)],yq g p g.n.toNat++ [aq p j]⟩:=by unfold F6;rw [hs0,LH]
 have QH:(arr (RK g p (-1) g.n.toNat) g.es.length).length=g.es.length:=ee
 rw [QG]
 have hrf:∀f,mC g p f=if f= -1 then (cK p g.n.toNat:Int) else f:=fun f=>rfl
 generalize arr (RK g p (-1) g.n.toNat) g.es.length=RA at QH
 generalize arr (LK g p g.n.toNat) g.es.length=LA
 generalize iC p g.n.toNat=LO at lZ
 generalize yq g p g.n.toNat=HI at x6
 generalize fy g p j=E1
 generalize lP g p j=G1
 generalize cK p g.n.toNat=cc at lZ x6 OH hrf
 repeat' (first|refine Rn.p ?_|(with_reducible apply And.intro)|((first|(refine hK _ ?_;clear hK K)|with_reducible intro K hK|refine Rs.p ?_|((with_reducible first|apply oP|apply oQ);exact rfl));try simp only [go_sem,simprocAttr,hb,lZ])|((with_reducible refine oD ?_ ?_);kernel_rfl)|((with_reducible intro h);try simp only [go_sem,simprocAttr,hb,lZ] at h)|omega|intro h)
 refine ag (fun i:Nat=>i≤RA.length) (fun i=>⟨[(4, .ptr 4 0),(12, .ptr 54 0),(17,eN cc),(175, .ref 63),(176,eN RA.length),(177,eN i)], [(54, .box [.d (sI E1), .d (sI G1), .ref 59, .ref 63, .ref 156, .ref 164]),(59, .own 3 1 (LA.map rI)),(63, .own 3 1 ((lQ RA (mC g p) i).map rI)),(156, .tip 3 1 ((LO++ [(s0:Int)]).map rI)),(164, .own 3 1 ((HI++ [aq p j]).map rI)),(4, .box [.nil 3, .nil 3, .nil 3, .nil 3])]⟩) (fun i=>RA.length - i) 0 (by omega) ?_ ?_
 ·refine Le.of ?_ ?_<;>simp [go_sem,simprocAttr,lQ,rI]
 rintro i hi
 rcases Nat.lt_or_ge i RA.length with hil|Kh
 ·have F7:decide ((i:Int)<(RA.length:Int))=true:=decide_eq_true (by omega)
  have hml:=Ef (l:=RA) (f:=mC g p) (j:=i)
  have hma:=AA (f:=mC g p) hil
  by_cases A7:RA.getD i 0= -1
  ·have ak:decide ((lQ RA (mC g p) i).getD i 0= -1)=true:=decide_eq_true (by rw [hma,A7])
   have dV:=uC (f:=mC g p) hil
   rw [hrf,if_pos A7] at dV
   generalize lQ RA (mC g p) i=M at hml ak dV
   repeat' (first|refine Rn.p ?_|(with_reducible apply And.intro)|((first|(refine hK _ ?_;clear hK K)|with_reducible intro K hK|refine Rs.p ?_|((with_reducible first|apply oP|apply oQ);exact rfl));try simp only [go_sem,simprocAttr,F7,ak,hml])|((with_reducible refine oD ?_ ?_);kernel_rfl)|((with_reducible intro h);try simp only [go_sem,simprocAttr,F7,ak,hml] at h)|omega|intro h)
   refine ⟨i+1,by omega, ?_,by omega⟩
   rw [dV]
   refine Le.of ?_ ?_<;>simp [go_sem,simprocAttr,F7,ak,hml,rI]
  ·have ak:decide ((lQ RA (mC g p) i).getD i 0= -1)=false:=decide_eq_false (by rw [hma];exact A7)
   have dV:=BQ (f:=mC g p) hil (by rw [hrf,if_neg A7])
   generalize lQ RA (mC g p) i=M at hml ak dV
   repeat' (first|refine Rn.p ?_|(with_reducible apply And.intro)|((first|(refine hK _ ?_;clear hK K)|with_reducible intro K hK|refine Rs.p ?_|((with_reducible first|apply oP|apply oQ);exact rfl));try simp only [go_sem,simprocAttr,F7,ak,hml])|((with_reducible refine oD ?_ ?_);kernel_rfl)|((with_reducible intro h);try simp only [go_sem,simprocAttr,F7,ak,hml] at h)|omega|intro h)
   refine ⟨i+1,by omega, ?_,by omega⟩
   rw [dV]
   refine Le.of ?_ ?_<;>simp [go_sem,simprocAttr,F7,ak,hml,rI]
 have F7:decide ((i:Int)<(RA.length:Int))=false:=decide_eq_false (by omega)
 obtain rfl:i=RA.length:=by omega
 rw [Eg]
 repeat' (first|refine Rn.p ?_|(with_reducible apply And.intro)|((first|(refine hK _ ?_;clear hK K)|with_reducible intro K hK|refine Rs.p ?_|((with_reducible first|apply oP|apply oQ);exact rfl));try simp only [go_sem,simprocAttr,F7,pV])|((with_reducible refine oD ?_ ?_);kernel_rfl)|((with_reducible intro h);try simp only [go_sem,simprocAttr,F7,pV] at h)|omega|intro h)
end Go.Ab
end
section
namespace Go.Ab
open Go.Proofs
set_option maxRecDepth 10000
set_option linter.unusedSectionVars false
section
variable (g:Gr) (p:Pl)
def cN:Nat:=cK p g.n.toNat
def Lf (e:Int):Int:=LK g p g.n.toNat e
def Rf (e:Int):Int:=RK g p (cN g p) g.n.toNat e
def IU:List Int:=iC p g.n.toNat++ [aq p 0]
def Lm:List Int:=yq g p g.n.toNat++ [aq p (g.n.toNat - 1)]
def QI (f:Int):Int:=(IU g p).getD f.toNat 0
def R1 (f:Int):Int:=(Lm g p).getD f.toNat 0
end
section
variable {g:Gr} {p:Pl}
theorem F8:(IU g p).length=cN g p+1:=by simp [IU,gq,cN]
variable (h:bM g p) (hI:jV g=true)
include h hI
theorem KH {a:Int} (ha:(bC g p).H9 a):∃k u b v,k<g.n.toNat∧iB g a=aq p k∧bF p (aq p k)=u++a::b::v:=by
 obtain ⟨x,u,b,v,e⟩:=ha
 by_cases hx:nw g x
 ·obtain ⟨k,hk,rfl⟩:=fu h.2.1 hx.1 hx.2
  rw [gP hx] at e
  exact ⟨k,u,b,v,hk,(nE h hk e).1,e⟩
 ·rw [oV hx] at e;cases u<;>cases e
theorem AB {a:Int} (ha:(bC g p).H9 a):∃f:Nat,1≤f∧f<cN g p∧∀r,RK g p r g.n.toNat a=f:=by
 obtain ⟨k,u,b,v,hk,_,e⟩:=KH h hI ha
 have hl:(bF p (aq p k)).length=u.length+(v.length+2):=by rw [e];simp
 have GK:cK p (k+1)=cK p k+((bF p (aq p k)).length - 1):=rfl
 obtain ⟨d,hd⟩:=Nat.exists_eq_add_of_le (show k+1≤g.n.toNat by omega)
 have hmo:=qL (p:=p) (k:=k+1) (d:=d)
 rw [← hd] at hmo
 have hp:0<cK p k:=pS
 have Fk:cN g p=cK p g.n.toNat:=rfl
 exact ⟨cK p k+u.length,by omega,by omega,fun r=>by rw [iW h hk e (by omega) (Nat.le_refl _)];omega⟩
theorem fA:(bC g p).gm (Lf g p) (Rf g p) 0 (cN g p) (QI g p):=by
 have F:=nF h hI (r:=cN g p) (.inr (Int.le_refl _))
 exact {F with
  new:=fun {x u a b v} e=>by
   obtain ⟨h1,h2,h3⟩:=F.new e
   obtain ⟨f,_,h5,h6⟩:=AB h hI (a:=a) ⟨x,u,b,v,e⟩
   have h7:Rf g p a=f:=h6 _
   have h8:RK g p (cN g p) g.n.toNat a=f:=h6 _
   refine ⟨?_,h2,h3⟩
   rw [h8] at h1
   show (iC p g.n.toNat++ [aq p 0]).getD (Rf g p a).toNat 0=x
   rw [h7, ← h1,Int.toNat_natCast,lE (by rw [gq];exact h5)]}
theorem nH:(bC g p).Ok:=Ao h hI
theorem KI {e:Int} (he:0≤e∧e<g.es.length):mC g p (RK g p (-1) g.n.toNat e)=Rf g p e:=by
 have F:=nF h hI (r:= -1) (.inl (by omega))
 have F':=nF h hI (r:=cN g p) (.inr (Int.le_refl _))
 rcases D4 (Ao h hI) F F' (d:=_+1) (Nat.lt_succ_self _) (e:=e) he with ⟨h1,h2⟩|⟨a,h1,_,h2,h3⟩
 ·rw [h1];unfold mC Rf;rw [if_pos rfl,h2];rfl
 ·obtain ⟨f,h4,_,h5⟩:=AB h hI h1
  unfold mC Rf
  rw [h2,h3,h5,h5,if_neg (by omega)]
theorem Ig:F6 g p=⟨arr (Lf g p) g.es.length,arr (Rf g p) g.es.length,IU g p,Lm g p⟩:=by
 unfold F6
 have:(arr (RK g p (-1) g.n.toNat) g.es.length).map (mC g p)=arr (Rf g p) g.es.length:=by
  unfold arr
  rw [List.map_map]
  refine List.map_congr_left fun i hi=> ?_
  have:=List.mem_range.1 hi
  exact KI h hI (e:=(i:Int)) (by omega)
 rw [this];rfl
theorem KJ {e:Int} (he:0≤e∧e<g.es.length):1≤Rf g p e∧Rf g p e≤cN g p:=by
 have hp:0<cK p g.n.toNat:=pS
 rcases D4 (Ao h hI) (fA h hI) (fA h hI) (d:=_+1) (Nat.lt_succ_self _) (e:=e) he with ⟨h1,_⟩|⟨a,h1,_,h2,_⟩
 ·rw [h1];have:cN g p=cK p g.n.toNat:=rfl;omega
 ·obtain ⟨f,h3,h4,h5⟩:=AB h hI h1
  have h5:Rf g p a=f:=h5 _
  omega
theorem KK {e:Int} (he:0≤e∧e<g.es.length):0≤Lf g p e∧Lf g p e<cN g p:=by
 have hp:0<cK p g.n.toNat:=pS
 rcases GU (Ao h hI) (fA h hI) (fA h hI) (d:=_+1) (Nat.lt_succ_self _) (e:=e) he with ⟨h1,_⟩|⟨a,h1,h2,_⟩
 ·rw [h1];have:cN g p=cK p g.n.toNat:=rfl;omega
 ·obtain ⟨f,h3,h4,h5⟩:=AB h hI h1
  have h5:Rf g p a=f:=h5 _
  omega
theorem KL:(cN g p:Int)=g.es.length - g.n+2:=by
 have hm:=aE h.1
 have hn:=aU hm
 have tX:bF p (aq p (g.n.toNat - 1))= []:=(eo h hI (aJ h.2.1 (by omega))).2 rfl
 have key:∀k,k<g.n.toNat→(cK p k:Int)=1+((List.range k).flatMap fun j=>bF p (aq p j)).length - k:=by
  intro k
  induction k with
  |zero=>intro _;simp [cK]
  |succ k ih=>
   intro hk
   have hO:bF p (aq p k)≠ []:=fun h1=>by
    have:=(eo h hI (aJ h.2.1 (show k<g.n.toNat by omega))).1 h1
    have:=dM h.2.1 (show k<g.n.toNat by omega) (by omega) this
    omega
   have:=List.length_pos_iff.2 hO
   have ih:=ih (by omega)
   have e1:((List.range (k+1)).flatMap fun j=>bF p (aq p j))=((List.range k).flatMap fun j=>bF p (aq p j))++bF p (aq p k):=by rw [List.range_succ,List.flatMap_append];simp
   rw [e1,List.length_append,cK]
   omega
 have hall:((List.range (g.n.toNat - 1)).flatMap fun j=>bF p (aq p j)).length=g.es.length:=by
  have b8:∀k,k≤g.n.toNat→((List.range k).flatMap fun j=>bF p (aq p j)).Nodup:=by
   intro k
   induction k with
   |zero=>intro _;simp
   |succ k ih=>
    intro hk
    rw [List.range_succ,List.flatMap_append,List.nodup_append]
    refine ⟨ih (by omega),by simpa using D7 h (by omega),fun a ha b hb e=> ?_⟩
    subst e
    obtain ⟨j,hj,hja⟩:=List.mem_flatMap.1 ha
    have hj:=List.mem_range.1 hj
    have hb:a∈bF p (aq p k):=by simpa using hb
    have t1:=(iX h (by omega) hja).2
    have t2:=(iX h (by omega) hb).2
    have:=dM h.2.1 (show j<g.n.toNat by omega) (by omega) (t1.symm.trans t2)
    omega
  have KM:∀e:Int,0≤e→e<g.es.length→e∈((List.range (g.n.toNat - 1)).flatMap fun j=>bF p (aq p j)):=fun e h1 h2=>by
   have ht:=bX hm (i:=e.toNat) (by omega)
   obtain ⟨k,hk,e1⟩:=fu h.2.1 ht.1 ht.2
   have e1:aq p k=iB g e:=e1
   obtain ⟨u,v,e2⟩:=Ay h hk ⟨h1,h2⟩ e1.symm
   refine List.mem_flatMap.2 ⟨k,List.mem_range.2 ?_,by rw [e2];simp⟩
   refine Decidable.byContradiction fun hc=> ?_
   obtain rfl:k=g.n.toNat - 1:=by omega
   rw [tX] at e2;cases u<;>cases e2
  have h1:=pJ KM
  have h2:=eW (m:=(List.range g.es.length).map Int.ofNat) (b8 (g.n.toNat - 1) (by omega)) fun e he=>by
   obtain ⟨j,hj,hja⟩:=List.mem_flatMap.1 he
   have hj:=List.mem_range.1 hj
   have:=(iX h (by omega) hja).1
   exact List.mem_map.2 ⟨e.toNat,List.mem_range.2 (by omega),by simp;omega⟩
  rw [List.length_map,List.length_range] at h2
  omega
 have h1:=key (g.n.toNat - 1) (by omega)
 rw [hall] at h1
 have h2:cN g p=cK p (g.n.toNat - 1):=by
  show cK p g.n.toNat=_
  rw [show g.n.toNat=(g.n.toNat - 1)+1 by omega,cK,show g.n.toNat - 1+1 - 1=g.n.toNat - 1 by omega,tX];rfl
 omega
theorem Ih (h0:0<g.es.length):2≤g.n:=by
 have hm:=aE h.1
 have ht:=bX hm (i:=0) h0
 have hh:=cW hm (i:=0) h0
 obtain ⟨k,hk,e⟩:=fu h.2.1 hh.1 hh.2
 obtain ⟨j,hj,_⟩:=sX h (e:=0) (by omega) hk e.symm
 omega
end
end Go.Ab
end
section
namespace Go.Ab
open Go.Proofs
set_option maxRecDepth 10000
def Ej (q:Nat→Bool):Nat→Nat
 |0=>0
 |n+1=>Ej q n ||| (if q n then 2 ^ n else 0)
theorem oY {q:Nat→Bool} {y:Nat} :∀ {n:Nat},(Ej q n).testBit y=(decide (y<n)&&q y)
 |0=>by simp [Ej]
 |n+1=>by
  rw [Ej,Nat.testBit_or,oY]
  by_cases h:y=n
  ·subst h
   cases hq:q y<;>simp [Nat.testBit_two_pow_self]
  ·have h2:(if q n then 2 ^ n else 0).testBit y=false:=by
    split
    ·rw [Nat.testBit_two_pow];exact decide_eq_false fun e=>h e.symm
    ·simp
   rw [h2,Bool.or_false]
   congr 1
   rw [decide_eq_decide];omega
inductive Cc (g:Gr) (both:Bool) (c:Nat→Bool) (x:Nat):Nat→Prop
 |refl:Cc g both c x x
 |fwd {i:Nat} :i<g.es.length→c i=true→Cc g both c x (tl g i).toNat→Cc g both c x (hd g i).toNat
 |OI {i:Nat} :i<g.es.length→c i=true→both=true→Cc g both c x (hd g i).toNat→Cc g both c x (tl g i).toNat
theorem Cc.trans {g:Gr} {both:Bool} {c:Nat→Bool} {x y z:Nat} (h1:Cc g both c x y) (h2:Cc g both c y z):Cc g both c x z:=by
 induction h2 with
 |refl=>exact h1
 |fwd a b _ ih=>exact .fwd a b ih
 |OI a b d _ ih=>exact .OI a b d ih
open Classical in
noncomputable def NK (g:Gr) (both:Bool) (c:Nat→Bool) (x:Nat):Nat:=Ej (fun y=>decide (Cc g both c x y)) g.n.toNat
noncomputable def QJ (g:Gr) (both:Bool) (c:Nat→Bool):List Nat:=(List.range g.n.toNat).map (NK g both c)
open Classical in
theorem Ln {g:Gr} {both:Bool} {c:Nat→Bool} {x y:Nat} :(NK g both c x).testBit y=true↔y<g.n.toNat∧Cc g both c x y:=by
 unfold NK
 rw [oY]
 simp
def KN (g:Gr) (both:Bool) (c:Nat→Bool) (a:List Nat):Nat→List Nat × Bool
 |0=>(a,false)
 |k+1=>
  let s:=KN g both c a k
  if c k=true then
   let t:=s.1.getD (tl g k).toNat 0 ||| s.1.getD (hd g k).toNat 0
   let h:=if both=true then t else s.1.getD (hd g k).toNat 0
   ((s.1.set (tl g k).toNat t).set (hd g k).toNat h,s.2||(decide (t≠s.1.getD (tl g k).toNat 0)||decide (h≠s.1.getD (hd g k).toNat 0)))
  else s
structure OJ (g:Gr) (both:Bool) (c:Nat→Bool) (a:List Nat):Prop where
 len:a.length=g.n.toNat
 own:∀x,x<g.n.toNat→(a.getD x 0).testBit x=true
 snd:∀x y,x<g.n.toNat→(a.getD x 0).testBit y=true→y<g.n.toNat∧Cc g both c x y
theorem OJ.lt {g:Gr} {both:Bool} {c:Nat→Bool} {a:List Nat} (h:OJ g both c a) (hn:g.n.toNat≤64) (x:Nat):a.getD x 0<18446744073709551616:=by
 by_cases hx:x<g.n.toNat
 ·have:a.getD x 0<2 ^ 64:=Nat.lt_pow_two_of_testBit _ fun i hi=>by
   cases hb:(a.getD x 0).testBit i with
   |false=>rfl
   |true=>have:=(h.snd x i hx hb).1;omega
  simpa using this
 ·rw [List.getD_eq_getElem?_getD,List.getElem?_eq_none (by rw [h.len];omega)];simp
def QK (a:List Nat):Nat:=a.foldr (· + ·) 0
end Go.Ab
end
section
namespace Go.Ab
open Go.Proofs
attribute [local congr] ACall.congr gd.congr Nx.congr
set_option maxRecDepth 20000
set_option maxHeartbeats 8000000
def rU (n:Nat):List D:= [.sc (.int .u64 (n:Int))]
def eU (n:Nat):AV:= .d (.sc (.int .u64 (n:Int)))
def sU (l:List Nat):D:= .sl 1 (l.map rU)
theorem getD_rU (ps:List Nat) (i:Nat):(ps.map rU).getD i [.sc (.int .u64 0)]= [.sc (.int .u64 ((ps.getD i 0:Nat):Int))]:=by
 rw [List.getD_eq_getElem?_getD,List.getElem?_map,List.getD_eq_getElem?_getD]
 cases ps[i]? <;>rfl
attribute [go_sem] eU sU getD_rU InU
end Go.Ab
end
section
namespace Go.Ab
open Go.Proofs
attribute [local congr] ACall.congr gd.congr Nx.congr
set_option maxRecDepth 20000
set_option maxHeartbeats 8000000
def NL (k:Nat):List Nat:=(List.range k).map fun x=>2 ^ x
def OK (g:Gr):List Nat:=if aP g=true then NL g.n.toNat else []
theorem GR {l:List Nat} :∀r∈l.map rU,∀x∈r,∃v,x=D.sc v:=by
 intro r hr x hx
 obtain ⟨y,_,rfl⟩:=List.mem_map.1 hr
 simp only [rU,List.mem_singleton] at hx
 exact ⟨_,hx⟩
noncomputable def R2 (g:Gr):List Nat:=if aP g=true then QJ g false (fun _=>true) else []
end Go.Ab
end
section
namespace Go.Ab
open Go.Proofs
set_option maxRecDepth 10000
set_option linter.unusedSectionVars false
def QL (s:Nat) (x:Int):Bool:=decide (0≤x)&&decide (x<64)&&s.testBit x.toNat
section
variable {P:PS} (h:P.Ok) {L R:Int→Int} {f0 f1:Int} {low:Int→Int} (F:P.gm L R f0 f1 low)
def QM (P:PS) (R:Int→Int) (f:Int):Nat→Nat
 |0=>0
 |j+1=>if R (P.sh j)=f then j+1 else QM P R f j
include h F
end
section
variable (g:Gr) (p:Pl)
def IV:Gr:=⟨(cN g p:Int)+1,(List.range g.es.length).map fun i:Nat=>(Lf g p i,Rf g p i)⟩
end
section
variable {g:Gr} {p:Pl}
theorem F9:(IV g p).es.length=g.es.length:=by simp [IV]
variable (h:bM g p) (hI:jV g=true)
include h hI
theorem Ga (h0:0<g.es.length) (hl:g.es.length≤60):aP (IV g p)=true:=by
 have he:=KL h hI
 have hn:=Ih h hI h0
 unfold aP
 have hn:(IV g p).n=(cN g p:Int)+1:=rfl
 rw [F9,hn]
 simp only [Bool.and_eq_true,decide_eq_true_eq,Bool.not_eq_true',List.any_eq_false]
 refine ⟨⟨⟨by omega,by omega⟩,by omega⟩,fun e hm=> ?_⟩
 obtain ⟨i,hi,rfl⟩:=List.mem_map.1 hm
 have hi:=List.mem_range.1 hi
 have h1:=KK h hI (e:=(i:Int)) (by omega)
 have h2:=KJ h hI (e:=(i:Int)) (by omega)
 simp only [ot,tr,hn,Bool.or_eq_true,decide_eq_true_eq]
 omega
end
end Go.Ab
end
section
namespace Go.Ab
open Go.Proofs
attribute [local congr] ACall.congr gd.congr Nx.congr
set_option maxRecDepth 10000
set_option maxHeartbeats 16000000
theorem BW (g:Gr) (hl:g.es.length≤9223372036854775807) (p:Pl) (hp:oR p) (b:Bool) (hr:b=true↔(bZ g).1=0∧bw g p):Spec Tryz.prog 37 (Args [eG g,ePl p]) [] (eB (decide ((bK b g p).2.1=0))) []:=by
 have hO:=xX g hl p hp b hr
 generalize bK b g p=R at hO
 (refine Spec.hd (C:=T.cfg [] []) (rs:= [.t 4]) (T.ai _ _) Tryz.func37 rfl rfl Tryz.ntmps37 Tryz.results37 (by simp [AObj.isNest]) (by simp [AObj.isNest]) (by kernel_rfl) T.mixed fun X hX hP hC aK cw=> ?_)
 repeat' (first|refine Rn.p ?_|(with_reducible apply And.intro)|((first|(refine hK _ ?_;clear hK K)|with_reducible intro K hK|refine Rs.p ?_|((with_reducible first|apply oP|apply oQ);exact rfl)|refine aa hX hC hP (hO) rfl rfl rfl (by simp only [go_sem,simprocAttr]) rfl ?_);try simp only [go_sem,simprocAttr])|((with_reducible refine oD ?_ ?_);kernel_rfl)|((with_reducible intro h);try simp only [go_sem,simprocAttr] at h)|omega|intro h)
end Go.Ab
end
section
namespace Go.Ab
open Go.Proofs
attribute [local congr] ACall.congr gd.congr Nx.congr
set_option maxRecDepth 20000
set_option maxHeartbeats 8000000
theorem qq (g:Gr) (hl:g.es.length≤1000) (p:Pl) (hp:oR p) (b:Bool) (hr:b=true↔(bZ g).1=0∧bw g p):
 Spec Tryz.prog 11 (Args [eG g,ePl p]) [] (.tup [pV (E3 b g p).1,eN (E3 b g p).2]) []:=by
 have hO:=ji g hl p hp b hr
 have Ie:=sS g hl
 by_cases h0:(bK b g p).2.1=0
 rotate_left
 ·have hK:E3 b g p=(zn,1):=if_neg fun h=>h0 h.1.1
  have hb0:decide ((bK b g p).2.1=0)=false:=decide_eq_false h0
  rw [hK]
  (refine Spec.hd (C:=T.cfg [] []) (rs:= [.c 4 32, .t 5]) (T.ai _ _) Tryz.func11 rfl rfl Tryz.ntmps11 Tryz.results11 (by simp [AObj.isNest]) (by simp [AObj.isNest]) (by kernel_rfl) T.mixed fun X hX hP hC aK cw=> ?_)
  repeat' (first|refine Rn.p ?_|(with_reducible apply And.intro)|((first|(refine hK _ ?_;clear hK K)|with_reducible intro K hK|refine Rs.p ?_|((with_reducible first|apply oP|apply oQ);exact rfl)|refine aa hX hC hP (hO) rfl rfl rfl (by simp only [go_sem,simprocAttr,hb0,pV,zn,List.map_nil]) rfl ?_);try simp only [go_sem,simprocAttr,hb0,pV,zn,List.map_nil])|((with_reducible refine oD ?_ ?_);kernel_rfl)|((with_reducible intro h);try simp only [go_sem,simprocAttr,hb0,pV,zn,List.map_nil] at h)|omega|intro h)
 obtain ⟨hrun,hR⟩:=uk hr h0
 cases hI:jV g with
 |false=>
  have hK:E3 b g p=(zn,1):=if_neg fun h=>by rw [hI] at h;cases h.1.2
  rw [hR] at hO
  simp only at hO
  rw [hI] at Ie
  rw [hK]
  (refine Spec.hd (C:=T.cfg [] []) (rs:= [.c 4 32, .t 5]) (T.ai _ _) Tryz.func11 rfl rfl Tryz.ntmps11 Tryz.results11 (by simp [AObj.isNest]) (by simp [AObj.isNest]) (by kernel_rfl) T.mixed fun X hX hP hC aK cw=> ?_)
  repeat' (first|refine Rn.p ?_|(with_reducible apply And.intro)|((first|(refine hK _ ?_;clear hK K)|with_reducible intro K hK|refine Rs.p ?_|((with_reducible first|apply oP|apply oQ);exact rfl)|refine aa hX hC hP (hO) rfl rfl rfl (by simp only [go_sem,simprocAttr,pV,zn,List.map_nil]) rfl ?_|refine aa hX hC hP (Ie) rfl rfl rfl (by simp only [go_sem,simprocAttr,pV,zn,List.map_nil]) rfl ?_);try simp only [go_sem,simprocAttr,pV,zn,List.map_nil])|((with_reducible refine oD ?_ ?_);kernel_rfl)|((with_reducible intro h);try simp only [go_sem,simprocAttr,pV,zn,List.map_nil] at h)|omega|intro h)
 |true=>
  by_cases hm:0<g.es.length
  ·have hK:E3 b g p=(F6 g p,0):=if_pos ⟨⟨h0,hI⟩,hm⟩
   rw [hK]
   exact BT g p hp hrun hI hm b hr
  ·have hK:E3 b g p=(zn,1):=if_neg fun h=>hm h.2
   have ak:decide ((g.es.length:Int)=0)=true:=decide_eq_true (by omega)
   rw [hR] at hO
   simp only at hO
   rw [hI] at Ie
   rw [hK]
   (refine Spec.hd (C:=T.cfg [] []) (rs:= [.c 4 32, .t 5]) (T.ai _ _) Tryz.func11 rfl rfl Tryz.ntmps11 Tryz.results11 (by simp [AObj.isNest]) (by simp [AObj.isNest]) (by kernel_rfl) T.mixed fun X hX hP hC aK cw=> ?_)
   repeat' (first|refine Rn.p ?_|(with_reducible apply And.intro)|((first|(refine hK _ ?_;clear hK K)|with_reducible intro K hK|refine Rs.p ?_|((with_reducible first|apply oP|apply oQ);exact rfl)|refine aa hX hC hP (hO) rfl rfl rfl (by simp only [go_sem,simprocAttr,ak,pV,zn,List.map_nil]) rfl ?_|refine aa hX hC hP (Ie) rfl rfl rfl (by simp only [go_sem,simprocAttr,ak,pV,zn,List.map_nil]) rfl ?_);try simp only [go_sem,simprocAttr,ak,pV,zn,List.map_nil])|((with_reducible refine oD ?_ ?_);kernel_rfl)|((with_reducible intro h);try simp only [go_sem,simprocAttr,ak,pV,zn,List.map_nil] at h)|omega|intro h)
end Go.Ab
end
section
namespace Go.Ab
open Go.Proofs
attribute [local congr] ACall.congr gd.congr Nx.congr
set_option maxRecDepth 20000
set_option maxHeartbeats 8000000
def R3 (f:Fc) (k:Nat):List Edge:=(List.range k).map fun i:Nat=>(f.L.getD i 0,f.R.getD i 0)
def x8 (b:Bool) (g:Gr) (p:Pl):Bool:= !qx g p&&jV g&&decide ((bK b g p).2.1=0)&&decide (0<(g.es.length:Int))&&decide ((g.es.length:Int)≤60)
theorem vQ (g:Gr) (hl:g.es.length≤9223372036854775807) (p:Pl) (hp:Aj p) (b:Bool) (hr:b=true↔(bZ g).1=0∧bw g p):Spec Tryz.prog 10 (Args [eG g,ePl p]) [] (eB (x8 b g p)) []:=by
 have hG:=vG g p hl hp
 cases hB:qx g p with
 |true=>
  rw [hB] at hG
  have ha:x8 b g p=false:=by unfold x8;rw [hB];rfl
  rw [ha]
  (refine Spec.hd (C:=T.cfg [] []) (rs:= [.t 4]) (T.ai _ _) Tryz.func10 rfl rfl Tryz.ntmps10 Tryz.results10 (by simp [AObj.isNest]) (by simp [AObj.isNest]) (by kernel_rfl) T.mixed fun X hX hP hC aK cw=> ?_)
  repeat' (first|refine Rn.p ?_|(with_reducible apply And.intro)|((first|(refine hK _ ?_;clear hK K)|with_reducible intro K hK|refine Rs.p ?_|((with_reducible first|apply oP|apply oQ);exact rfl)|refine aa hX hC hP (hG) rfl rfl rfl (by simp only [go_sem,simprocAttr]) rfl ?_);try simp only [go_sem,simprocAttr])|((with_reducible refine oD ?_ ?_);kernel_rfl)|((with_reducible intro h);try simp only [go_sem,simprocAttr] at h)|omega|intro h)
 |false=>
  rw [hB] at hG
  have hI:=zh g (by have:=(Ai hB).1;omega)
  have uA:=BW g hl p (xY hB) b hr
  have ha:x8 b g p=(jV g&&decide ((bK b g p).2.1=0)&&decide (0<(g.es.length:Int))&&decide ((g.es.length:Int)≤60)):=by unfold x8;rw [hB];rfl
  rw [ha]
  cases hi:jV g with
  |false=>
   rw [hi] at hI
   (refine Spec.hd (C:=T.cfg [] []) (rs:= [.t 4]) (T.ai _ _) Tryz.func10 rfl rfl Tryz.ntmps10 Tryz.results10 (by simp [AObj.isNest]) (by simp [AObj.isNest]) (by kernel_rfl) T.mixed fun X hX hP hC aK cw=> ?_)
   repeat' (first|refine Rn.p ?_|(with_reducible apply And.intro)|((first|(refine hK _ ?_;clear hK K)|with_reducible intro K hK|refine Rs.p ?_|((with_reducible first|apply oP|apply oQ);exact rfl)|refine aa hX hC hP (hG) rfl rfl rfl (by simp only [go_sem,simprocAttr,Bool.false_and]) rfl ?_|refine aa hX hC hP (hI) rfl rfl rfl (by simp only [go_sem,simprocAttr,Bool.false_and]) rfl ?_);try simp only [go_sem,simprocAttr,Bool.false_and])|((with_reducible refine oD ?_ ?_);kernel_rfl)|((with_reducible intro h);try simp only [go_sem,simprocAttr,Bool.false_and] at h)|omega|intro h)
  |true=>
   rw [hi] at hI
   cases hd:decide ((bK b g p).2.1=0) with
   |false=>
    rw [hd] at uA
    (refine Spec.hd (C:=T.cfg [] []) (rs:= [.t 4]) (T.ai _ _) Tryz.func10 rfl rfl Tryz.ntmps10 Tryz.results10 (by simp [AObj.isNest]) (by simp [AObj.isNest]) (by kernel_rfl) T.mixed fun X hX hP hC aK cw=> ?_)
    repeat' (first|refine Rn.p ?_|(with_reducible apply And.intro)|((first|(refine hK _ ?_;clear hK K)|with_reducible intro K hK|refine Rs.p ?_|((with_reducible first|apply oP|apply oQ);exact rfl)|refine aa hX hC hP (hG) rfl rfl rfl (by simp only [go_sem,simprocAttr,Bool.false_and,Bool.true_and]) rfl ?_|refine aa hX hC hP (hI) rfl rfl rfl (by simp only [go_sem,simprocAttr,Bool.false_and,Bool.true_and]) rfl ?_|refine aa hX hC hP (uA) rfl rfl rfl (by simp only [go_sem,simprocAttr,Bool.false_and,Bool.true_and]) rfl ?_);try simp only [go_sem,simprocAttr,Bool.false_and,Bool.true_and])|((with_reducible refine oD ?_ ?_);kernel_rfl)|((with_reducible intro h);try simp only [go_sem,simprocAttr,Bool.false_and,Bool.true_and] at h)|omega|intro h)
   |true=>
    rw [hd] at uA
    (refine Spec.hd (C:=T.cfg [] []) (rs:= [.t 4]) (T.ai _ _) Tryz.func10 rfl rfl Tryz.ntmps10 Tryz.results10 (by simp [AObj.isNest]) (by simp [AObj.isNest]) (by kernel_rfl) T.mixed fun X hX hP hC aK cw=> ?_)
    repeat' (first|refine Rn.p ?_|(with_reducible apply And.intro)|((first|(refine hK _ ?_;clear hK K)|with_reducible intro K hK|refine Rs.p ?_|((with_reducible first|apply oP|apply oQ);exact rfl)|refine aa hX hC hP (hG) rfl rfl rfl (by simp only [go_sem,simprocAttr,Bool.false_and,Bool.true_and]) rfl ?_|refine aa hX hC hP (hI) rfl rfl rfl (by simp only [go_sem,simprocAttr,Bool.false_and,Bool.true_and]) rfl ?_|refine aa hX hC hP (uA) rfl rfl rfl (by simp only [go_sem,simprocAttr,Bool.false_and,Bool.true_and]) rfl ?_);try simp only [go_sem,simprocAttr,Bool.false_and,Bool.true_and])|((with_reducible refine oD ?_ ?_);kernel_rfl)|((with_reducible intro h);try simp only [go_sem,simprocAttr,Bool.false_and,Bool.true_and] at h)|omega|intro h)
    all_goals (simp [*];omega)
theorem Ii {b:Bool} {g:Gr} {p:Pl} (hr:b=true↔(bZ g).1=0∧bw g p) (h:x8 b g p=true):qx g p=false∧jV g=true∧bM g p∧0<g.es.length∧g.es.length≤60:=by
 simp only [x8,Bool.and_eq_true,Bool.not_eq_true',decide_eq_true_eq] at h
 exact ⟨h.1.1.1.1,h.1.1.1.2,(uk hr h.1.1.2).1,by omega,by omega⟩
theorem Ij {b:Bool} {g:Gr} {p:Pl} (hr:b=true↔(bZ g).1=0∧bw g p) (hrun:bM g p) (hI:jV g=true) (h0:0<g.es.length):E3 b g p=(⟨arr (Lf g p) g.es.length,arr (Rf g p) g.es.length,IU g p,Lm g p⟩,0):=by
 have:E3 b g p=(F6 g p,0):=if_pos ⟨⟨by rw [nG hr hrun],hI⟩,h0⟩
 rw [this,Ig hrun hI]
def GW:Gr:=⟨4, [(0,1),(1,3),(0,2),(2,3)]⟩
def Ik:Pl:=⟨[0,1,2,3], [[0,2], [1], [3], []]⟩
theorem NM:(true=true)↔(bZ GW).1=0∧bw GW Ik:=⟨fun _=>⟨by decide,⟨rfl,by decide,by decide⟩⟩,fun _=>rfl⟩
theorem NN:E3 true GW Ik=(⟨[0,0,1,1], [1,1,2,2], [0,0,0], [3,3,3]⟩,0):=by
 have:E3 true GW Ik=(F6 GW Ik,0):=if_pos ⟨⟨rfl,by decide⟩,by decide⟩
 rw [this]
 rfl
theorem jm:Spec Tryz.prog 9 (Args []) [] (eB true) []:=by
 have H7:=qq GW (by decide) Ik ⟨by decide,by decide,by decide⟩ true NM
 rw [NN] at H7
 simp only at H7
 have e1:GW.es.map rE= [[.sc (.int .i64 0), .sc (.int .i64 1)], [.sc (.int .i64 1), .sc (.int .i64 3)], [.sc (.int .i64 0), .sc (.int .i64 2)], [.sc (.int .i64 2), .sc (.int .i64 3)]]:=rfl
 have e2:Ik.ord.map rI= [[.sc (.int .i64 0)], [.sc (.int .i64 1)], [.sc (.int .i64 2)], [.sc (.int .i64 3)]]:=rfl
 have e3:vI Ik.outs= [[.sl 1 [[.sc (.int .i64 0)], [.sc (.int .i64 2)]]], [.sl 1 [[.sc (.int .i64 1)]]], [.sl 1 [[.sc (.int .i64 3)]]], [.sl 1 []]]:=rfl
 have e4:GW.n=4:=rfl
 (refine Spec.hd (C:=T.cfg [] []) (rs:= [.t 0]) (T.ai _ _) Tryz.func9 rfl rfl Tryz.ntmps9 Tryz.results9 (by simp [AObj.isNest]) (by simp [AObj.isNest]) (by kernel_rfl) T.mixed fun X hX hP hC aK cw=> ?_)
 repeat' (first|refine Rn.p ?_|(with_reducible apply And.intro)|((first|(refine hK _ ?_;clear hK K)|with_reducible intro K hK|refine Rs.p ?_|((with_reducible first|apply oP|apply oQ);exact rfl)|(refine bJ hX hC hP (H7) rfl rfl rfl ?_ ?_ rfl ?_;iterate 2 (focus (simp only [go_sem,simprocAttr,pV,e1,e2,e3,e4,List.map_cons,List.map_nil,rI,decide_true];done)))|(refine bJ hX hC hP (mI [0,0,1,1] [0,0,1,1] (by decide)) rfl rfl rfl ?_ ?_ rfl ?_;iterate 2 (focus (simp only [go_sem,simprocAttr,pV,e1,e2,e3,e4,List.map_cons,List.map_nil,rI,decide_true];done)))|(refine bJ hX hC hP (mI [1,1,2,2] [1,1,2,2] (by decide)) rfl rfl rfl ?_ ?_ rfl ?_;iterate 2 (focus (simp only [go_sem,simprocAttr,pV,e1,e2,e3,e4,List.map_cons,List.map_nil,rI,decide_true];done))));try simp only [go_sem,simprocAttr,pV,e1,e2,e3,e4,List.map_cons,List.map_nil,rI,decide_true])|((with_reducible refine oD ?_ ?_);kernel_rfl)|((with_reducible intro h);try simp only [go_sem,simprocAttr,pV,e1,e2,e3,e4,List.map_cons,List.map_nil,rI,decide_true] at h)|omega|intro h)
end Go.Ab
end
section
namespace Go.Ab
open Go.Proofs
attribute [local congr] ACall.congr gd.congr Nx.congr
set_option maxRecDepth 20000
set_option maxHeartbeats 16000000
structure Br where
 y:List Int
 fr:List Int
 to:List Int
 x:List Int
def R4 (b:Br):AV:= .agg [.d (sI b.y), .d (sI b.fr), .d (sI b.to), .d (sI b.x)]
section
variable (g:Gr) (p:Pl)
def Lo (f:Int):Int:=(Oy (IV g p)).getD f.toNat 0
def QN (e:Int):Int:=Lo g p (Lf g p e)
def QO (l:List Int):Int:=if l= [] then 0 else Lo g p (Lf g p (l.getD 0 0))
def toV (l:List Int):Int:=(if l= [] then Lo g p (cN g p) else Lo g p (Rf g p (l.getD (l.length - 1) 0))) - 1
def R5:Br:=⟨Oy g,p.outs.map (QO g p),p.outs.map (toV g p),arr (QN g p) g.es.length⟩
end
end Go.Ab
end
section
namespace Go.Ab
open Go.Proofs
set_option maxRecDepth 10000
set_option linter.unusedSectionVars false
def KO (l:List Int):Nat→List (List Int × Int)
 |0=> []
 |j+1=>tc (KO l j) [l.getD j 0] (gK (KO l j) [l.getD j 0]+1)
theorem Gb {aj:List (List Int × Int)} {k:List Int} {v:Int} (hn:(aj.map (·.1)).Nodup) (h:(k,v)∈aj):gK aj k=v:=by
 unfold gK
 cases hf:cR aj k with
 |none=>exact absurd rfl (mV hf _ h)
 |some i=>
  obtain ⟨p,hp,e⟩:=gY hf
  obtain ⟨j,hj,e2⟩:=List.mem_iff_getElem.1 h
  have hi:=(List.getElem?_eq_some_iff.1 hp).1
  have:i=j:=by
   have h1:(aj.map (·.1))[i]'(by simpa using hi)=(aj.map (·.1))[j]'(by simpa using hj):=by
    rw [List.getElem_map,List.getElem_map,e2]
    have:=(List.getElem?_eq_some_iff.1 hp).2
    rw [this,e]
   exact (List.getElem_inj hn).1 h1
  subst this
  simp only [hp,Option.map_some,Option.getD_some]
  have h2:=(List.getElem?_eq_some_iff.1 hp).2
  rw [e2] at h2
  rw [← h2]
theorem BX {aj:List (List Int × Int)} {k:List Int} (h:∀p∈aj,p.1≠k):gK aj k=0:=by
 unfold gK
 cases hf:cR aj k with
 |none=>rfl
 |some i=>
  obtain ⟨p,hp,e⟩:=gY hf
  exact absurd e (h p (List.mem_of_getElem? hp))
theorem mw {aj:List (List Int × Int)} {i:Nat} {v:Int} :(kU aj i v).map (·.1)=aj.map (·.1):=by
 refine List.ext_getElem? fun j=> ?_
 rw [List.getElem?_map,List.getElem?_map,kU,List.getElem?_modify]
 cases aj[j]? with
 |none=>rfl
 |some p=>by_cases h:i=j<;>simp [h]
theorem x9 {aj:List (List Int × Int)} {i:Nat} {v:Int} {p:List Int × Int} (h:p∈kU aj i v):p∈aj∨p.2=v:=by
 obtain ⟨j,hj,e⟩:=List.mem_iff_getElem.1 h
 have h1:(kU aj i v)[j]? =some p:=by rw [List.getElem?_eq_getElem hj,e]
 rw [kU,List.getElem?_modify] at h1
 cases hq:aj[j]? with
 |none=>rw [hq] at h1;simp at h1
 |some q=>
  rw [hq] at h1
  by_cases hij:i=j
  ·simp [hij] at h1;right;rw [← h1]
  ·simp [hij] at h1;left;rw [← h1];exact List.mem_of_getElem? hq
structure ya (aj:List (List Int × Int)) (j:Nat) (S:Int→Prop):Prop where
 nd:(aj.map (·.1)).Nodup
 mem:∀k,k∈aj.map (·.1)↔∃x,S x∧k= [x]
 DG:∀p∈aj,1≤p.2∧p.2≤j
theorem ya.val {aj:List (List Int × Int)} {j:Nat} {S:Int→Prop} (h:ya aj j S) (x:Int):0≤gK aj [x]∧gK aj [x]≤j∧(S x→1≤gK aj [x]):=by
 by_cases hx:S x
 ·have:=(h.mem [x]).2 ⟨x,hx,rfl⟩
  obtain ⟨p,hp,e⟩:=List.mem_map.1 this
  have hr:=h.DG p hp
  have hv:gK aj [x]=p.2:=Gb h.nd (by rw [← e];exact hp)
  rw [hv]
  exact ⟨by omega,hr.2,fun _=>hr.1⟩
 ·have:gK aj [x]=0:=BX fun p hp e=>by
   obtain ⟨y,hy,e2⟩:=(h.mem p.1).1 (List.mem_map.2 ⟨p,hp,rfl⟩)
   rw [e] at e2
   have:x=y:=by injection e2
   subst this;exact hx hy
  rw [this]
  exact ⟨by omega,by omega,fun h=>absurd h hx⟩
theorem ya.step {aj:List (List Int × Int)} {j:Nat} {S:Int→Prop} (h:ya aj j S) (x:Int):ya (tc aj [x] (gK aj [x]+1)) (j+1) (fun y=>S y∨y=x):=by
 obtain ⟨v1,v2,v3⟩:=h.val x
 unfold tc gy j4
 cases hf:cR aj [x] with
 |some i=>
  simp only
  obtain ⟨p,hp,e⟩:=gY hf
  have hx:S x:=by
   obtain ⟨y,hy,e2⟩:=(h.mem p.1).1 (List.mem_map.2 ⟨p,List.mem_of_getElem? hp,rfl⟩)
   rw [e] at e2
   have:x=y:=by injection e2
   subst this;exact hy
  refine ⟨by rw [mw];exact h.nd,fun k=> ?_,fun q hq=> ?_⟩
  ·rw [mw,h.mem]
   constructor
   ·rintro ⟨y,hy,e⟩;exact ⟨y, .inl hy,e⟩
   ·rintro ⟨y,hy|hy,e⟩
    ·exact ⟨y,hy,e⟩
    ·subst hy;exact ⟨y,hx, ‹k= [y]›⟩
  ·rcases x9 hq with h1|h1
   ·have:=h.DG q h1;omega
   ·omega
 |none=>
  simp only
  have hnk:([x]:List Int)∉aj.map (·.1):=fun hm=>by
   obtain ⟨p,hp,e⟩:=List.mem_map.1 hm
   exact mV hf p hp e
  refine ⟨?_,fun k=> ?_,fun q hq=> ?_⟩
  ·rw [mw,List.map_append,List.nodup_append]
   exact ⟨h.nd,by simp,fun a ha b hb e=>by
    simp only [List.map_cons,List.map_nil,List.mem_singleton] at hb
    subst hb;subst e;exact hnk ha⟩
  ·rw [mw,List.map_append,List.mem_append,h.mem]
   simp only [List.map_cons,List.map_nil,List.mem_singleton]
   constructor
   ·rintro (⟨y,hy,e⟩|e)
    ·exact ⟨y, .inl hy,e⟩
    ·exact ⟨x, .inr rfl,e⟩
   ·rintro ⟨y,hy|rfl,e⟩
    ·exact .inl ⟨y,hy,e⟩
    ·exact .inr e
  ·rcases x9 hq with h1|h1
   ·rw [List.mem_append,List.mem_singleton] at h1
    rcases h1 with h1|rfl
    ·have:=h.DG q h1;omega
    ·
     exfalso
     obtain ⟨i,hi,e⟩:=List.mem_iff_getElem.1 hq
     have h2:(kU (aj++ [([x],0)]) aj.length (gK aj [x]+1))[i]? =some ([x],0):=by rw [List.getElem?_eq_getElem hi,e]
     rw [kU,List.getElem?_modify] at h2
     by_cases hie:aj.length=i
     ·subst hie;simp at h2;omega
     ·simp only [hie,if_false] at h2
      rcases Nat.lt_or_ge i aj.length with h3|h3
      ·rw [List.getElem?_append_left h3] at h2
       have h4:(([x],0):List Int × Int)∈aj:=by
        simp at h2;exact List.mem_of_getElem? h2
       exact hnk (List.mem_map.2 ⟨_,h4,rfl⟩)
      ·rw [List.getElem?_eq_none (by simp;omega)] at h2;simp at h2
   ·omega
end Go.Ab
end
section
namespace Go.Ab
open Go.Proofs
set_option maxRecDepth 10000
set_option linter.unusedSectionVars false
section
variable {g:Gr} {p:Pl} (hrun:bM g p) (hI:jV g=true) (h0:0<g.es.length) (Il:g.es.length≤60)
include hrun hI h0 Il
end
end Go.Ab
end
section
namespace Go.Ab
open Go.Proofs
set_option maxRecDepth 10000
structure vR (g:Gr) (p:Pl) (k:Nat) (e:Int):Prop where
 e0:0≤e
 e1:e<g.es.length
 low:iB g e∈p.ord.take k
 top:jj g e∉p.ord.take k
structure OL (g:Gr) (p:Pl) (L:Nat→Int→Int→Prop):Prop where
 up:∀e:Int,0≤e→e<g.es.length→∀k,k<g.n.toNat→aq p k=jj g e→iB g e∈p.ord.take k
 R6:∀k,k<g.n.toNat→∀a b c:Int,vR g p k a→vR g p k b→vR g p k c→jj g a=aq p k→jj g c=aq p k→L k a b→L k b c→jj g b=aq p k
 keep:∀k,k<g.n.toNat→∀a b:Int,vR g p k a→vR g p k b→jj g a≠aq p k→jj g b≠aq p k→L k a b→L (k+1) a b
 left:∀k,k<g.n.toNat→∀a b c:Int,vR g p k a→vR g p k b→jj g a≠aq p k→jj g b=aq p k→c∈bF p (aq p k)→L k a b→L (k+1) a c
 right:∀k,k<g.n.toNat→∀a b c:Int,vR g p k a→vR g p k b→jj g a≠aq p k→jj g b=aq p k→c∈bF p (aq p k)→L k b a→L (k+1) c a
 outs:∀k,k<g.n.toNat→(bF p (aq p k)).Pairwise (L (k+1))
section
variable {g:Gr} {p:Pl}
end
end Go.Ab
end
section
namespace Go.Ab
open Go.Proofs
attribute [local congr] ACall.congr gd.congr Nx.congr
set_option maxRecDepth 20000
set_option maxHeartbeats 16000000
def hasB (b:Br) (x:Nat) (q:Int):Bool:=decide (b.fr.getD x 0≤q)&&decide (q≤b.to.getD x 0)
def QS (b:Br) (x z:Nat):Bool:=decide (b.y.getD z 0=b.y.getD x 0)&&decide (b.fr.getD z 0≤b.to.getD x 0)&&decide (b.fr.getD x 0≤b.to.getD z 0)
def QT (b:Br) (x:Nat):Bool:=decide (b.fr.getD x 0≤b.to.getD x 0)&&(List.range x).all fun z=> !QS b x z
def Im (b:Br):Bool:=(List.range b.y.length).all (QT b)
end Go.Ab
end
section
namespace Go.Ab
open Go.Proofs
attribute [local congr] ACall.congr gd.congr Nx.congr
set_option maxRecDepth 20000
set_option maxHeartbeats 32000000
def GX (b:Br) (g:Gr):Bool:=decide ((b.y.length:Int)=g.n)&&decide ((b.fr.length:Int)=g.n)&&decide ((b.to.length:Int)=g.n)&&decide ((b.x.length:Int)=(g.es.length:Int))
def QU (b:Br) (lo hi q:Int) (x:Nat):Bool:=decide (lo<b.y.getD x 0)&&decide (b.y.getD x 0<hi)&&hasB b x q
def Ek (b:Br) (s t:Nat) (q:Int):Bool:=decide (b.y.getD s 0<b.y.getD t 0)&&hasB b s q&&hasB b t q&&(List.range b.y.length).all fun x=> !QU b (b.y.getD s 0) (b.y.getD t 0) q x
def QV (g:Gr) (b:Br) (i k:Nat):Bool:=decide (b.x.getD k 0=b.x.getD i 0)&&decide (b.y.getD (tl g i).toNat 0<b.y.getD (hd g k).toNat 0)&&decide (b.y.getD (tl g k).toNat 0<b.y.getD (hd g i).toNat 0)
def QW (g:Gr) (b:Br) (i:Nat):Bool:=Ek b (tl g i).toNat (hd g i).toNat (b.x.getD i 0)&&(List.range i).all fun k=> !QV g b i k
def KP (g:Gr) (b:Br):Bool:=decide ((bZ g).1=0)&&GX b g&&Im b&&(List.range g.es.length).all (QW g b)
end Go.Ab
end
section
namespace Go.Ab
open Go.Proofs
attribute [local congr] ACall.congr gd.congr Nx.congr
set_option maxRecDepth 20000
set_option maxHeartbeats 32000000
def QX (b:Br) (x z:Nat):Bool:= !decide ((x:Int)=(z:Int))&&decide (b.y.getD x 0=b.y.getD z 0)&& !(decide (b.to.getD x 0<b.fr.getD z 0)||decide (b.to.getD z 0<b.fr.getD x 0))
def QY (b:Br) (n x:Nat):Bool:=decide (b.fr.getD x 0≤b.to.getD x 0)&&(List.range n).all fun z=> !QX b x z
def QZ (g:Gr) (b:Br) (i k:Nat):Bool:= !decide ((k:Int)=(i:Int))&&decide (b.x.getD k 0=b.x.getD i 0)&& !(decide (b.y.getD (hd g i).toNat 0≤b.y.getD (tl g k).toNat 0)||decide (b.y.getD (hd g k).toNat 0≤b.y.getD (tl g i).toNat 0))
def Q0 (g:Gr) (b:Br) (i:Nat):Bool:=Ek b (tl g i).toNat (hd g i).toNat (b.x.getD i 0)&&(List.range g.es.length).all fun k=> !QZ g b i k
def IW (g:Gr) (b:Br):Bool:=decide ((bZ g).1=0)&&GX b g&&(List.range b.y.length).all (QY b b.y.length)&&(List.range g.es.length).all (Q0 g b)
end Go.Ab
end
section
namespace Go.Ab
open Go.Proofs
attribute [local congr] ACall.congr gd.congr Nx.congr
set_option maxRecDepth 20000
set_option maxHeartbeats 32000000
end Go.Ab
end
section
namespace Go.Ab
open Go.Proofs
attribute [local congr] ACall.congr gd.congr Nx.congr
set_option maxRecDepth 20000
set_option maxHeartbeats 8000000
def OM (g:Gr) (b:Br):Bool:=decide (80<(g.es.length:Int))||decide (70<(b.y.length:Int))||decide (70<(b.fr.length:Int))||decide (70<(b.to.length:Int))||decide (80<(b.x.length:Int))
end Go.Ab
end
section
namespace Go.Ab
open Go.Proofs
set_option maxRecDepth 10000
structure Io (g:Gr) (b:Br):Prop where
 wg:(bZ g).1=0
 ly:(b.y.length:Int)=g.n
 lf:(b.fr.length:Int)=g.n
 lt:(b.to.length:Int)=g.n
 lx:b.x.length=g.es.length
 R7:∀v,v<b.y.length→b.fr.getD v 0≤b.to.getD v 0
 apart:∀v,v<b.y.length→∀z,z<v→¬(b.y.getD z 0=b.y.getD v 0∧b.fr.getD z 0≤b.to.getD v 0∧b.fr.getD v 0≤b.to.getD z 0)
 up:∀i,i<g.es.length→b.y.getD (tl g i).toNat 0<b.y.getD (hd g i).toNat 0∧(b.fr.getD (tl g i).toNat 0≤b.x.getD i 0∧b.x.getD i 0≤b.to.getD (tl g i).toNat 0)∧(b.fr.getD (hd g i).toNat 0≤b.x.getD i 0∧b.x.getD i 0≤b.to.getD (hd g i).toNat 0)
 clear:∀i,i<g.es.length→∀v,v<b.y.length→¬(b.y.getD (tl g i).toNat 0<b.y.getD v 0∧b.y.getD v 0<b.y.getD (hd g i).toNat 0∧b.fr.getD v 0≤b.x.getD i 0∧b.x.getD i 0≤b.to.getD v 0)
 ON:∀i,i<g.es.length→∀k,k<i→¬(b.x.getD k 0=b.x.getD i 0∧b.y.getD (tl g i).toNat 0<b.y.getD (hd g k).toNat 0∧b.y.getD (tl g k).toNat 0<b.y.getD (hd g i).toNat 0)
def OO (b:Br):Br:=⟨b.y.map fun y=>3*y - 7,(List.range b.y.length).map fun v=>5*b.fr.getD v 0+1,(List.range b.y.length).map fun v=>5*b.to.getD v 0+2,b.x.map fun x=>5*x+1⟩
def OP (b:Br):Br:=⟨b.y,(List.range b.y.length).map fun v=> -b.to.getD v 0,(List.range b.y.length).map fun v=> -b.fr.getD v 0,b.x.map fun x=> -x⟩
end Go.Ab
end
section
namespace Go.Ab
open Go.Proofs
set_option maxRecDepth 10000
set_option linter.unusedSectionVars false
def yB (b:Br) (v:Int):Int:=b.y.getD v.toNat 0
def fB (b:Br) (v:Int):Int:=b.fr.getD v.toNat 0
def tB (b:Br) (v:Int):Int:=b.to.getD v.toNat 0
def xB (b:Br) (e:Int):Int:=b.x.getD e.toNat 0
def OQ (b:Br) (u v:Int):Prop:=yB b u<yB b v∨yB b u=yB b v∧fB b u<fB b v
structure El (g:Gr) (b:Br) (p:Pl):Prop where
 perm:p.ord.Perm (iI g.n.toNat)
 sort:p.ord.Pairwise (OQ b)
 len:p.outs.length=g.n.toNat
 outs:∀x:Nat,x<g.n.toNat→(p.outs.getD x []).Perm (bu g x)
 OR:∀x:Nat,x<g.n.toNat→(p.outs.getD x []).Pairwise fun i k=>xB b i<xB b k
section
variable {g:Gr} {b:Br} {p:Pl} (h:Io g b) (hp:El g b p)
include hp
theorem El.ok:bw g p:=⟨hp.len,hp.perm,hp.outs⟩
theorem El.lt {j k:Nat} (hj:j<k) (hk:k<g.n.toNat):OQ b (aq p j) (aq p k):=by
 have hl:=bQ hp.ok
 have:=List.pairwise_iff_getElem.1 hp.sort j k (by omega) (by omega) hj
 rw [aq,aq,List.getD_eq_getElem?_getD,List.getD_eq_getElem?_getD,List.getElem?_eq_getElem (by omega),List.getElem?_eq_getElem (by omega)]
 exact this
include h
end
end Go.Ab
end
section
namespace Go.Ab
set_option maxRecDepth 10000
set_option linter.unusedSectionVars false
variable {P:PS}
section
variable (h:P.Ok)
include h
end
def PS.R8 (P:PS) (a b:Int):Prop:=∃j,j≤P.m∧a∈(P.st j).D∧b∉(P.st j).D
def PS.R9 (P:PS) (L R:Int→Int) (a b:Int):Prop:=∃u e f v,P.outs a=u++ [e]∧P.outs b=f::v∧P.Lp L R (R e) (L f)
section
variable (h:P.Ok) {L R:Int→Int} {f0 f1:Int} {low:Int→Int} (F:P.gm L R f0 f1 low)
include h F
end
end Go.Ab
end
section
namespace Go.Ab
open Go.Proofs
set_option maxRecDepth 10000
set_option linter.unusedSectionVars false
section
variable {g:Gr} {p:Pl} (h:bM g p)
include h
variable (hI:jV g=true)
include hI
end
end Go.Ab
end
section
namespace Go.Ab
open Go.Proofs
set_option maxRecDepth 10000
end Go.Ab
end
section
namespace Go.Ab
open Go.Proofs
set_option maxRecDepth 10000
set_option linter.unusedSectionVars false
def Sa (g:Gr) (p:Pl) (rev:Bool) (v:Int):Int:=(Ag g p rev g.n.toNat).getD v.toNat 0
section
variable {g:Gr} {p:Pl} (h:bM g p)
include h
variable (hI:jV g=true)
include hI
end
end Go.Ab
end
section
namespace Go.Ab
open Go.Proofs Go.RowKit Go.Shelf
attribute [local go_sem] Oper.semAt_some
attribute [local congr] ACall.congr gd.congr Nx.congr
theorem KQ {W:World} {z:Nat→Nat} {p:Value} {x:D} (h:Rd W z p (.pt [x])):∃b off v,p= .pointer (some ⟨b,off,none⟩)∧W.cell? ⟨b,off,none⟩=some v∧Rd W z v x:=by
 cases h with
 |pt b off cells vs hz hc hr=>exact ⟨b,off,vs 0,rfl,by simpa using hc 0 (by simp),hr 0 x rfl⟩
theorem NO {W:World} {z:Nat→Nat} {v:Value} {sz:Nat} {rows:List (List D)} (h:Rd W z v (.sl sz rows)):(∃p,v= .slice p 0 0∧rows= [])∨∃(b off cap:Nat) (vs:Nat→Value),v= .slice (some ⟨b,off,none⟩) rows.length cap∧rows.length≤cap∧(∀r∈rows,r.length=sz)∧
 (∀k,k<rows.length*sz→W.cell? ⟨b,off+k,none⟩=some (vs k))∧∀(i j:Nat) (r:List D) (x:D),rows[i]? =some r→r[j]? =some x→Rd W z (vs (i*sz+j)) x:=by
 cases h with
 |nil p sz=>exact .inl ⟨p,rfl,rfl⟩
 |sl b off n cap sz rows vs hn hsz hz hcap hc hr=>subst hn;exact .inr ⟨b,off,cap,vs,rfl,hcap,hsz,hc,hr⟩
set_option maxRecDepth 100000 in
set_option maxHeartbeats 4000000 in
theorem Gc (rows:List (List D)) (h3:∀r∈rows,r.length=3) (hl:rows.length≤1000000):C8 Tryz.prog 95 3 rows:=by
 intro l p J W hJ h0
 obtain ⟨z0,uM,_⟩:=hJ 0 W h0
 obtain ⟨B,o,v0,rfl,th,I8⟩:=KQ uM
 have hc:∀k W1,J k W1→∃pp cap,W1.cell? ⟨B,o,none⟩=some (.slice pp rows.length cap)∧(k<rows.length→∃b1 o1,pp=some ⟨b1,o1,none⟩∧∃u0 u1 u2:Value,
  W1.cell? ⟨b1,o1+(rows.length - 1 - k)*3,none⟩=some u0∧W1.cell? ⟨b1,o1+(rows.length - 1 - k)*3+1,none⟩=some u1∧W1.cell? ⟨b1,o1+(rows.length - 1 - k)*3+2,none⟩=some u2∧
  YieldAt Fence.wide 3 Tryz.prog l #[.int .i64 ((rows.length - 1 - k:Nat):Int), .agg #[u0,u1,u2]] W1 fun e W2=>e= .returned (.bool true)∧J (k+1) W2):=by
  intro k W1 hk
  obtain ⟨z,hp,hy⟩:=hJ k W1 hk
  obtain ⟨B',o',v,e,hv,hr⟩:=KQ hp
  cases e
  rcases NO hr with ⟨pp,rfl,rfl⟩|⟨b,off,cap,vs,rfl,hcap,hsz,hcs,v8⟩
  ·exact ⟨pp,0,hv,fun h=>absurd h (by simp)⟩
  ·refine ⟨_,cap,hv,fun ck=>⟨b,off,rfl,vs ((rows.length - 1 - k)*3),vs ((rows.length - 1 - k)*3+1),vs ((rows.length - 1 - k)*3+2), ?_, ?_, ?_, ?_⟩⟩
   ·exact hcs ((rows.length - 1 - k)*3) (by omega)
   ·exact hcs ((rows.length - 1 - k)*3+1) (by omega)
   ·exact hcs ((rows.length - 1 - k)*3+2) (by omega)
   ·have hlt:rows.length - 1 - k<rows.length:=by omega
    refine hy ck [vs ((rows.length - 1 - k)*3),vs ((rows.length - 1 - k)*3+1),vs ((rows.length - 1 - k)*3+2)] rfl fun i u x hu hx=> ?_
    have hx':∃r,rows[rows.length - 1 - k]? =some r∧r[i]? =some x:=⟨rows[rows.length - 1 - k],List.getElem?_eq_getElem hlt,by rw [List.getD_eq_getElem?_getD,List.getElem?_eq_getElem hlt] at hx;exact hx⟩
    obtain ⟨r,iF,tK⟩:=hx'
    have:=v8 (rows.length - 1 - k) i r x iF tK
    match i,hu with
    |0,hu=>cases hu;exact this
    |1,hu=>cases hu;exact this
    |2,hu=>cases hu;exact this
 clear hJ uM I8 th
 refine callsIn_of_wp Tryz.func95 rfl trivial ?_ rfl
 simp only [Tryz.ntmps95,List.size_toArray,List.length_cons,List.length_nil,Nat.reduceAdd,Nat.reduceSub,Array.replicate_succ,Array.replicate_zero,List.push_toArray,List.append_toArray,List.nil_append,List.cons_append]
 obtain ⟨Sb,Q1,hc0,_⟩:=hc 0 W h0
 have hw:wrap64 ((rows.length:Int) - 1)=(rows.length:Int) - 1:=by unfold wrap64;omega
 gi_wp2
 gi_loopw [3] (fun i wr=>∃k:Nat,k≤rows.length∧i= .int .i64 ((rows.length:Int) - 1 - k)∧J k wr) (fun i _=>(Go.RowKit.intOf i+1).toNat)
 case atStart=>exact ⟨0,Nat.zero_le _,by simp,h0⟩
 case round=>
  obtain ⟨k,hk,rfl,JH⟩:=hrel
  obtain ⟨pp,cap,Oe,KR⟩:=hc k wr JH
  by_cases hlt:k<rows.length
  ·obtain ⟨b1,o1,rfl,u0,u1,u2,g0,g1,g2,fn,tmps,assign,body,hy,hR⟩:=KR hlt
   have hi:((rows.length - 1 - k:Nat):Int)=(rows.length:Int) - 1 - k:=by omega
   rw [hi] at hy
   have hi2:((rows.length:Int) - 1 - k).toNat=rows.length - 1 - k:=by omega
   have Sc:0≤(rows.length:Int) - 1 - k:=by omega
   have Sd:wrap64 ((rows.length:Int) - 1 - k - 1)=(rows.length:Int) - 1 - k - 1:=by unfold wrap64;omega
   gi_wp2
   refine hR.mono ?_
   rintro e W3 ⟨rfl,Nc⟩
   gi_wp2
   go_roundw
   case rel=>exact ⟨k+1,by omega,by congr 1;omega,Nc⟩
   case measure=>simp [Go.RowKit.intOf];omega
  ·obtain rfl:k=rows.length:=by omega
   gi_wp2
   go_end0
   exact ⟨⟨_,rfl⟩,JH⟩
end Go.Ab
end
section
namespace Go.Ab
open Go.Proofs
set_option maxRecDepth 10000
variable {g:Gr} {p:Pl}
def qs (g:Gr) (p:Pl) (v:Nat):List Int:=(p.outs.getD v []).map (fun i=>2*i)++(((dz g p g.n.toNat).getD v []).reverse.filter fun t=> !decide (t.1= -1)).map fun t=>2*t.1+1
def aF (g:Gr) (p:Pl):List (List Int):=(List.range p.outs.length).map (qs g p)
theorem Gd (hr:bM g p) {k:Nat} (hk:k<g.n.toNat):∀t∈dU g p k,y9 g t:=by
 have pO:=hr.2.1
 have hm:=aE hr.1
 obtain ⟨hi,_,_⟩:=de hm pO (k:=k) (by omega) fun j hj=>hr.2.2 j (by omega)
 have hR:aD g (fK g p k) (aq p k)=true:=hr.2.2 k (by omega)
 have hx:=aJ pO (k:=k) (by omega)
 unfold dU
 by_cases hn:bt g (aq p k)=0
 ·rw [gW _ (kE hm hi.togI hx.1 hn)]
  intro t ht;cases ht
 ·obtain ⟨A,X,C,hrw,nA,nC,hX,cX⟩:=cr hm hi.togI hR hn
  rw [gO _ hrw nA nC hX]
  intro t ht
  exact hi.it t (by rw [hrw];simp [show t∈X from ht])
end Go.Ab
end
section
namespace Go.Ab
open Go.Proofs
attribute [local congr] ACall.congr gd.congr Nx.congr
set_option maxRecDepth 20000
set_option maxHeartbeats 16000000
theorem tC (fG:List It):Spec Tryz.prog 48 (Args [.d (sT fG)]) [] (.fn 95 [] [.d (.pt [.sl 3 (fG.map rT)])]) []:=by
 (refine Spec.hd (C:=T.cfg [] []) (rs:= [.t 2]) (T.ai _ _) Tryz.func48 rfl rfl Tryz.ntmps48 Tryz.results48 (by simp [AObj.isNest]) (by simp [AObj.isNest]) (by kernel_rfl) T.mixed fun X hX hP hC aK cw=> ?_)
 repeat' (first|refine Rn.p ?_|(with_reducible apply And.intro)|((first|(refine hK _ ?_;clear hK K)|with_reducible intro K hK|refine Rs.p ?_|((with_reducible first|apply oP|apply oQ);exact rfl));try simp only [go_sem,simprocAttr])|((with_reducible refine oD ?_ ?_);kernel_rfl)|((with_reducible intro h);try simp only [go_sem,simprocAttr] at h)|omega|intro h)
section
variable {g:Gr} {p:Pl}
theorem AD (hr:bM g p) {x:Nat} (hx:x<g.n.toNat):((dz g p g.n.toNat).getD x []).length≤10000∧∀t∈(dz g p g.n.toNat).getD x [],t.1= -1∨(0≤t.1∧t.1<g.es.length):=by
 have pO:=hr.2.1
 have hm:=aE hr.1
 have hn:=aU hm
 obtain ⟨k,hk,ek⟩:=fu pO (x:=(x:Int)) (by omega) (by omega)
 have e1:=mh pO (k:=g.n.toNat) (Nat.le_refl _) hk
 rw [ek,Int.toNat_natCast] at e1
 rw [e1]
 refine ⟨?_,fun t ht=> ?_⟩
 ·obtain ⟨hi,_,hrl⟩:=de hm pO (k:=k) (by omega) fun j hj=>hr.2.2 j (by omega)
  have hR:aD g (fK g p k) (aq p k)=true:=hr.2.2 k (by omega)
  have hmul:k*(g.es.length+1)≤64*129:=Nat.mul_le_mul (by omega) (by omega)
  have hx:=aJ pO (k:=k) (by omega)
  unfold dU
  by_cases hn0:bt g (aq p k)=0
  ·rw [gW _ (kE hm hi.togI hx.1 hn0)];simp
  ·obtain ⟨A,X,C,hrw,nA,nC,hX,cX⟩:=cr hm hi.togI hR hn0
   rw [gO _ hrw nA nC hX]
   rw [hrw] at hrl
   simp only [List.length_append] at hrl
   show X.length≤_
   omega
 ·rcases Gd hr hk t ht with ⟨h0,_⟩|⟨h0,h1,_⟩
  ·exact .inl h0
  ·exact .inr ⟨h0,h1⟩
theorem AE (hr:bM g p) {x:Nat} (hx:x<g.n.toNat):(p.outs.getD x []).length≤g.es.length∧∀i∈p.outs.getD x [],0≤i∧i<g.es.length:=by
 have pO:=hr.2.1
 have hl:=iS pO (x:=(x:Int)) (by omega) (by omega)
 have hp:=bN pO (x:=(x:Int)) (by omega) (by omega)
 unfold bF at hl hp
 rw [Int.toNat_natCast] at hl hp
 exact ⟨hl,fun i hi=>(fQ (hp.mem_iff.1 hi)).1⟩
end
def zo (fG:List It) (k:Nat):List Int:=((fG.reverse.take k).filter fun t=> !decide (t.1= -1)).map fun t=>2*t.1+1
theorem Ge {fG:List It} :zo fG fG.length=(fG.reverse.filter fun t=> !decide (t.1= -1)).map fun t=>2*t.1+1:=by
 unfold zo
 rw [List.take_of_length_le (by simp)]
theorem Em {fG:List It} {k:Nat} (hk:k<fG.length):zo fG (k+1)=zo fG k++(if (fG.getD (fG.length - 1 - k) (0,0,0)).1= -1 then [] else [2*(fG.getD (fG.length - 1 - k) (0,0,0)).1+1]):=by
 unfold zo
 have hk':k<fG.reverse.length:=by simpa using hk
 rw [List.take_add_one,List.getElem?_eq_getElem hk',List.filter_append,List.map_append]
 congr 1
 rw [List.getElem_reverse,List.getD_eq_getElem?_getD,List.getElem?_eq_getElem (by omega)]
 simp only [Option.toList_some,Option.getD_some,List.filter_cons,List.filter_nil]
 split<;>rename_i h
 ·rw [if_neg (by simpa using h)];rfl
 ·rw [if_pos (by simpa using h)];rfl
theorem AF {fG:List It} {k:Nat} :(zo fG k).length≤fG.length:=by
 unfold zo
 rw [List.length_map]
 have h1:=List.length_filter_le (fun t:It=> !decide (t.1= -1)) (fG.reverse.take k)
 have h2:(fG.reverse.take k).length≤fG.length:=by rw [List.length_take,List.length_reverse];omega
 omega
theorem j0 {g:Gr} {p:Pl} :(aF g p).length=p.outs.length:=by simp [aF]
theorem zq {g:Gr} {p:Pl} {k:Nat} (hk:k<p.outs.length):(aF g p).take (k+1)=(aF g p).take k++ [qs g p k]:=by
 rw [List.take_add_one,List.getElem?_eq_getElem (by rw [j0];exact hk)]
 simp [aF]
theorem BY (g:Gr) (hl:g.es.length≤1000) (p:Pl) (hr:bM g p):Spec Tryz.prog 12 (Args [eG g,ePl p]) [] (.tup [.d (.sl 1 (vI (aF g p))),eN 0]) []:=by
 have hb:(true=true)↔(bZ g).1=0∧bw g p:=⟨fun _=>⟨hr.1,hr.2.1⟩,fun _=>rfl⟩
 have pO:=hr.2.1
 have hm:=aE hr.1
 have hn:=aU hm
 have hlen:=pO.1
 have hall:∀l∈p.outs,l.length≤g.es.length:=fun l hm=>by
  obtain ⟨i,hi,rfl⟩:=List.getElem_of_mem hm
  have:=(AE hr (x:=i) (by omega)).1
  rwa [List.getD_eq_getElem?_getD,List.getElem?_eq_getElem hi] at this
 have Q2:oR p:=by
  have:=bQ pO
  exact ⟨by omega,by omega,fun l hm=>by have:=hall l hm;omega⟩
 have uA:=ji g hl p Q2 true hb
 rw [nG hb hr] at uA
 simp only at uA
 have hel:=jU (g:=g) (p:=p) (k:=g.n.toNat)
 have OS:=fun x hx=>AD hr (x:=x) hx
 have HA:=fun x hx=>AE hr (x:=x) hx
 have OU:∀x,qs g p x=(p.outs.getD x []).map (fun i=>2*i)++zo ((dz g p g.n.toNat).getD x []) ((dz g p g.n.toNat).getD x []).length:=fun x=>by rw [Ge];rfl
 generalize dz g p g.n.toNat=ends at uA hel OS OU
 (refine Spec.hd (C:=T.cfg [] []) (rs:= [.t 4, .t 5]) (T.ai _ _) Tryz.func12 rfl rfl Tryz.ntmps12 Tryz.results12 (by simp [AObj.isNest]) (by simp [AObj.isNest]) (by kernel_rfl) T.mixed fun X hX hP hC aK cw=> ?_)
 repeat' (first|(show cl _ (.seq (.region 5 _ _) _) _ _;(refine iN hX 9 300 (.tip 25 1 []) ?_ ?_ (by decide) ⟨25,1,by decide, .inr rfl⟩ ?_;(iterate 2 (focus (simp only [go_sem,simprocAttr];done)));simp only [go_sem,simprocAttr]))|refine Rn.p ?_|(with_reducible apply And.intro)|((first|(refine hK _ ?_;clear hK K)|with_reducible intro K hK|refine Rs.p ?_|((with_reducible first|apply oP|apply oQ);exact rfl)|refine aa hX hC hP (uA) rfl rfl rfl (by simp only [go_sem,simprocAttr]) rfl ?_);try simp only [go_sem,simprocAttr])|((with_reducible refine oD ?_ ?_);kernel_rfl)|((with_reducible intro h);try simp only [go_sem,simprocAttr] at h)|omega|intro h)
 refine ag (fun k:Nat=>k≤p.outs.length) (fun k=>⟨[(6, .d (.sl 1 (vT ends))),(9, .ref 300),(28, .d (.sl 1 (vI p.outs))),(29,eN p.outs.length),(30,eN k)], [(300, .tip 25 1 (vI ((aF g p).take k)))]⟩) (fun k=>p.outs.length - k) 0 (by omega) ?_ ?_
 ·refine Le.of ?_ ?_<;>simp [go_sem,simprocAttr,vI_length,vI]
 rintro k hk
 rcases Nat.lt_or_ge k p.outs.length with hlt|hge
 ·have ak:decide ((k:Int)<(p.outs.length:Int))=true:=decide_eq_true (by omega)
  have j3:=fun d=>fq (ls:=p.outs) hlt d
  have yu:=fun d=>mc (ls:=ends) (k:=k) (by omega) d
  have dV:=zq (g:=g) hlt
  have B7:((aF g p).take k).length=k:=by rw [List.length_take,j0];omega
  have KS:=HA k (by omega)
  have KT:=OS k (by omega)
  have Gf:=OU k
  have zu:∀l1 l2,vI (l1++ [l2])=vI l1++ [[sI l2]]:=fun l1 l2=>by simp [vI]
  generalize p.outs.getD k []=o at j3 KS Gf
  generalize ends.getD k []=fG at yu KT Gf
  generalize I3:(aF g p).take (k+1)=T2 at dV
  generalize (aF g p).take k=T1 at dV B7
  repeat' (first|(show cl _ (.seq (.region 9 _ _) _) _ _;(refine xo hX 12 0 401 (.tip 3 1 []) rfl rfl rfl (by simp only [go_sem,simprocAttr,vI_length,vT_length,ak,j3,yu]) (by decide) (by simp [go_sem,simprocAttr,vI_length,vT_length,ak,j3,yu]) ⟨3,1,by decide, .inr rfl⟩ ?_;simp only [List.set_cons_zero,List.set_cons_succ,go_sem,simprocAttr,vI_length,vT_length,ak,j3,yu]))|refine Rn.p ?_|(with_reducible apply And.intro)|((first|(refine hK _ ?_;clear hK K)|with_reducible intro K hK|refine Rs.p ?_|((with_reducible first|apply oP|apply oQ);exact rfl)|refine aa hX hC hP (uA) rfl rfl rfl (by simp only [go_sem,simprocAttr,vI_length,vT_length,ak,j3,yu]) rfl ?_);try simp only [go_sem,simprocAttr,vI_length,vT_length,ak,j3,yu])|((with_reducible refine oD ?_ ?_);kernel_rfl)|((with_reducible intro h);try simp only [go_sem,simprocAttr,vI_length,vT_length,ak,j3,yu] at h)|omega|intro h)
  refine ag (fun j:Nat=>j≤o.length) (fun j=>⟨[(6, .d (.sl 1 (vT ends))),(9, .ref 300),(28, .d (.sl 1 (vI p.outs))),(29,eN p.outs.length),(30,eN k),(10,eN k),(12, .ptr 12 0),(35, .d (sI o)),(36,eN o.length),(37,eN j)], [(300, .tip 25 1 (vI T1)),(12, .box [.ref 401]),(401, .tip 3 1 (((o.take j).map fun i=>2*i).map rI))]⟩) (fun j=>o.length - j) 0 (by omega) ?_ ?_
  ·refine Le.of ?_ ?_<;>simp [go_sem,simprocAttr,vI_length,vT_length,ak,j3,yu]
  rintro j hj
  rcases Nat.lt_or_ge j o.length with hjl|IK
  ·have an:decide ((j:Int)<(o.length:Int))=true:=decide_eq_true (by omega)
   have hq:=aV (d:=0) hjl
   have IX:(o.take j).length=j:=by rw [List.length_take];omega
   have IE:o.take (j+1)=o.take j++ [o.getD j 0]:=by
    rw [List.take_add_one,List.getElem?_eq_getElem hjl,List.getD_eq_getElem?_getD,List.getElem?_eq_getElem hjl];rfl
   have hi2:=KS.2 _ hq
   generalize Q3:o.take (j+1)=P2 at IE
   generalize o.take j=P1 at IE IX
   generalize GG:o.getD j 0=i at IE hi2
   repeat' (first|(show cl _ (.region 13 _ _) _ _;(refine iO hX 12 0 45 401 rfl rfl rfl (by first|exact .inl rfl|exact .inr rfl) (by decide) (by decide) ?_;simp only [List.set_cons_zero,List.set_cons_succ,go_sem,simprocAttr,vI_length,vT_length,ak,an,j3,yu,GG,IX,List.length_map]))|refine Rn.p ?_|(with_reducible apply And.intro)|((first|(refine hK _ ?_;clear hK K)|with_reducible intro K hK|refine Rs.p ?_|((with_reducible first|apply oP|apply oQ);exact rfl)|refine aa hX hC hP (uA) rfl rfl rfl (by simp only [go_sem,simprocAttr,vI_length,vT_length,ak,an,j3,yu,GG,IX,List.length_map]) rfl ?_);try simp only [go_sem,simprocAttr,vI_length,vT_length,ak,an,j3,yu,GG,IX,List.length_map])|((with_reducible refine oD ?_ ?_);kernel_rfl)|((with_reducible intro h);try simp only [go_sem,simprocAttr,vI_length,vT_length,ak,an,j3,yu,GG,IX,List.length_map] at h)|omega|intro h)
   refine ⟨j+1,by omega, ?_,by omega⟩
   rw [Q3,IE]
   refine Le.of ?_ ?_<;>simp [go_sem,simprocAttr,vI_length,vT_length,ak,an,j3,yu,GG,IX,List.length_map,rI]
  have an:decide ((j:Int)<(o.length:Int))=false:=decide_eq_false (by omega)
  obtain rfl:j=o.length:=by omega
  rw [List.take_length]
  have Q4:=tC fG
  repeat' (first|refine Rn.p ?_|(with_reducible apply And.intro)|((first|(refine hK _ ?_;clear hK K)|with_reducible intro K hK|refine Rs.p ?_|((with_reducible first|apply oP|apply oQ);exact rfl)|refine aa hX hC hP (Q4) rfl rfl rfl (by simp only [go_sem,simprocAttr,vI_length,vT_length,ak,an,j3,yu]) rfl ?_);try simp only [go_sem,simprocAttr,vI_length,vT_length,ak,an,j3,yu])|((with_reducible refine oD ?_ ?_);kernel_rfl)|((with_reducible intro h);try simp only [go_sem,simprocAttr,vI_length,vT_length,ak,an,j3,yu] at h)|omega|intro h)
  have Lg:∀j,(fG.map rT).getD j []=if j<fG.length then rT (fG.getD j (0,0,0)) else []:=fun j=>by
   simp only [List.getD_eq_getElem?_getD,List.getElem?_map]
   split
   ·rename_i h;rw [List.getElem?_eq_getElem h];rfl
   ·rename_i h;rw [List.getElem?_eq_none (by omega)];rfl
  have hrl:(fG.map rT).length=fG.length:=List.length_map ..
  refine C9 hX (gf:=95) (sz:=3) (rows:=fG.map rT) (by rw [hP];exact Gc _ (fun r hr=>by obtain ⟨t,_,rfl⟩:=List.mem_map.1 hr;rfl) (by rw [hrl];omega)) (by rw [hP];exact ⟨_,_,Tryz.func95,rfl,rfl⟩) rfl (fun r hr=>by obtain ⟨t,_,rfl⟩:=List.mem_map.1 hr;rfl)
   (asN [(10000,12),(10001,401)]) [(12, .box [.ref 401]),(401, .tip 3 1 ((o.map fun i=>2*i).map rI))] [(10000, .box [.ref 10001]),(10001, .tip 3 1 ((o.map fun i=>2*i).map rI))] [(12, .ptr 10000 0)]
   (fun j=> [(10000, .box [.ref 402]),(402, .tip 3 1 (((o.map fun i=>2*i)++zo fG j).map rI))])
   (fun j=>⟨[(16, .ptr 16 0),(12, .ptr 10000 0)], [(16, .box [eN (fG.getD (fG.length - 1 - j) (0,0,0)).1,eN (fG.getD (fG.length - 1 - j) (0,0,0)).2.1,eN (fG.getD (fG.length - 1 - j) (0,0,0)).2.2]),(10000, .box [.ref 402]),(402, .tip 3 1 (((o.map fun i=>2*i)++zo fG j).map rI))]⟩) ?_ ?_ ?_ ?_ ?_ ?_ ?_ ?_ ?_
  ·refine ⟨by simp [asN,AObj.ren,AV.rens,AV.ren],by simp [nodupM,look],by simp [nodupM,look],by simp [AObj.isNest],by simp [AObj.isNest],fun l l' h h' e=> ?_,by simp [look,asN],by simp [AObj.ro],by simp [AObj.ro],by simp [AV.ids,AV.idss],by simp [AObj.ids,AV.idss,AV.ids,look]⟩
   have mem:∀l,(look [(10000,AObj.box [AV.ref 10001]),(10001,AObj.tip 3 1 ((o.map fun i=>2*i).map rI))] l≠none∨look [(10000,AObj.box [AV.ref 402]),(402,AObj.tip 3 1 (((o.map fun i=>2*i)++zo fG (fG.map rT).length).map rI))] l≠none)→l=10000∨l=10001∨l=402:=fun l hl=>by
    simp only [look] at hl
    by_cases e1:10000=l
    ·exact .inl e1.symm
    ·by_cases e2:10001=l
     ·exact .inr (.inl e2.symm)
     ·by_cases e3:402=l
      ·exact .inr (.inr e3.symm)
      ·rw [if_neg e1,if_neg e2,if_neg e1,if_neg e3] at hl
       exact absurd rfl (hl.elim id id)
   rcases mem l h with rfl|rfl|rfl<;>rcases mem l' h' with rfl|rfl|rfl<;>first|rfl|(simp [asN] at e)
  ·simp [look]
  ·simp
  ·intro q
   simp only [get]
   by_cases e:12=q
   ·subst e;left;simp [AV.ren,asN]
   ·right;rw [if_neg e]
  ·intro q l hl
   simp only [get] at hl
   by_cases e:12=q
   ·rw [if_pos e] at hl
    simp only [AV.ids,List.mem_singleton] at hl
    subst hl
    rw [dG (by omega)];simp [look]
   ·rw [if_neg e] at hl;simp [AV.ids] at hl
  ·intro X' HZ a w hr
   refine Rel.le ?_ (Rel.Mk HZ hr 10000 0 10001 402 rfl rfl rfl (.inr rfl) (by decide) (by decide))
   have hb0:zo fG 0= []:=by simp [zo]
   refine Le.of ?_ ?_<;>simp [go_sem,simprocAttr,hb0]
  ·intro j hj X' HZ IM NP
   have NQ:Xc X' (T.cfg [] []):=⟨HZ,by rw [NP,hC],by rw [IM,hP];exact hP ▸ aK⟩
   rw [hrl] at hj ⊢
   have uX:=Lg (fG.length - 1 - j)
   rw [if_pos (by omega)] at uX
   rw [uX]
   generalize fG.getD (fG.length - 1 - j) (0,0,0)=t
   repeat' (first|refine Rn.p ?_|(with_reducible apply And.intro)|((first|(refine hK _ ?_;clear hK K)|with_reducible intro K hK|refine Rs.p ?_|((with_reducible first|apply oP|apply oQ);exact rfl));try simp only [go_sem,simprocAttr,rT])|((with_reducible refine oD ?_ ?_);kernel_rfl)|((with_reducible intro h);try simp only [go_sem,simprocAttr,rT] at h)|omega|intro h)
   refine ⟨fun Y hY a w hr=>Rel.le ?_ hr⟩
   refine Le.of ?_ ?_<;>simp [go_sem,simprocAttr,rT]
  ·intro j hj X' HZ IM NP
   have NQ:Xc X' (T.cfg [] []):=⟨HZ,by rw [NP,hC],by rw [IM,hP];exact hP ▸ aK⟩
   rw [hrl] at hj
   have Lq:=Em hj
   have kH:=AF (fG:=fG) (k:=j)
   have IL:=KT.2 _ (aV (d:=(0,0,0)) (show fG.length - 1 - j<fG.length by omega))
   generalize fG.getD (fG.length - 1 - j) (0,0,0)=t at*
   generalize zo fG (j+1)=B2 at*
   generalize zo fG j=B1 at*
   by_cases ht:t.1= -1
   ·have bH:decide (t.1= -1)=true:=decide_eq_true ht
    rw [if_pos ht,List.append_nil] at Lq
    subst Lq
    repeat' (first|refine Rn.p ?_|(with_reducible apply And.intro)|((first|(refine hK _ ?_;clear hK K)|with_reducible intro K hK|refine Rs.p ?_|((with_reducible first|apply oP|apply oQ);exact rfl));try simp only [go_sem,simprocAttr,List.length_map,List.length_append,bH])|((with_reducible refine oD ?_ ?_);kernel_rfl)|((with_reducible intro h);try simp only [go_sem,simprocAttr,List.length_map,List.length_append,bH] at h)|omega|intro h)
    refine ⟨fun Y hY a w hr=>Rel.le ?_ hr⟩
    refine Le.of ?_ ?_<;>simp [go_sem,simprocAttr,List.length_map,List.length_append,bH]
   ·have bH:decide (t.1= -1)=false:=decide_eq_false ht
    rw [if_neg ht] at Lq
    subst Lq
    repeat' (first|refine Rn.p ?_|(with_reducible apply And.intro)|((first|(refine hK _ ?_;clear hK K)|with_reducible intro K hK|refine Rs.p ?_|((with_reducible first|apply oP|apply oQ);exact rfl));try simp only [go_sem,simprocAttr,List.length_map,List.length_append,bH])|((with_reducible refine oD ?_ ?_);kernel_rfl)|((with_reducible intro h);try simp only [go_sem,simprocAttr,List.length_map,List.length_append,bH] at h)|omega|intro h)
    refine ⟨fun Y hY a w hr=>Rel.le ?_ (Rel.Mk hY hr 10000 0 63 402 rfl rfl rfl (.inr rfl) (by decide) (by decide))⟩
    refine Le.of ?_ ?_<;>simp [go_sem,simprocAttr,List.length_map,List.length_append,bH,rI]
  ·rw [hrl, ← Gf]
   have Q5:(qs g p k).length≤20000:=by
    rw [Gf,List.length_append,List.length_map]
    have:=AF (fG:=fG) (k:=fG.length)
    omega
   generalize qs g p k=tv at*
   simp only [go_sem,simprocAttr,vI_length,vT_length,ak,killM,renM,asN,AObj.ren,AV.rens,AV.ren,zu]
   repeat' (first|(show cl _ (.region 19 _ _) _ _;(refine jd hX 9 67 300 (by simp only [go_sem,simprocAttr,vI_length,vT_length,ak,killM,renM,asN,AObj.ren,AV.rens,AV.ren,zu]) rfl (by first|exact .inl rfl|exact .inr rfl) (by decide) ?_;simp only [go_sem,simprocAttr,vI_length,vT_length,ak,killM,renM,asN,AObj.ren,AV.rens,AV.ren,zu]))|refine Rn.p ?_|(with_reducible apply And.intro)|((first|(refine hK _ ?_;clear hK K)|with_reducible intro K hK|refine Rs.p ?_|((with_reducible first|apply oP|apply oQ);exact rfl));try simp only [go_sem,simprocAttr,vI_length,vT_length,ak,killM,renM,asN,AObj.ren,AV.rens,AV.ren,zu])|((with_reducible refine oD ?_ ?_);kernel_rfl)|((with_reducible intro h);try simp only [go_sem,simprocAttr,vI_length,vT_length,ak,killM,renM,asN,AObj.ren,AV.rens,AV.ren,zu] at h)|omega|intro h)
   refine ⟨k+1,by omega, ?_,by omega⟩
   rw [I3,dV]
   refine Le.of ?_ ?_<;>simp [go_sem,simprocAttr,vI_length,vT_length,ak,killM,renM,asN,AObj.ren,AV.rens,AV.ren,zu]
 ·have ak:decide ((k:Int)<(p.outs.length:Int))=false:=decide_eq_false (by omega)
  obtain rfl:k=p.outs.length:=by omega
  rw [List.take_of_length_le (Nat.le_of_eq j0)]
  repeat' (first|refine Rn.p ?_|(with_reducible apply And.intro)|((first|(refine hK _ ?_;clear hK K)|with_reducible intro K hK|refine Rs.p ?_|((with_reducible first|apply oP|apply oQ);exact rfl));try simp only [go_sem,simprocAttr,ak])|((with_reducible refine oD ?_ ?_);kernel_rfl)|((with_reducible intro h);try simp only [go_sem,simprocAttr,ak] at h)|omega|intro h)
end Go.Ab
end
section
namespace Go.Ab
open Go.Proofs
set_option maxRecDepth 10000
set_option linter.unusedSectionVars false
section
variable {g:Gr} {p:Pl} (hrun:bM g p) (hI:jV g=true) (h0:0<g.es.length) (Il:g.es.length≤60)
include hrun hI h0 Il
end
end Go.Ab
end
section
namespace Go.Ab
open Go.Proofs
set_option maxRecDepth 10000
set_option linter.unusedSectionVars false
theorem En {g:Gr} {p:Pl} (hr:bM g p) {v:Nat} (hv:v<g.n.toNat):qs g p v=(p.outs.getD v []).map (fun i=>2*i)++(cH g p (v:Int)).reverse.map fun i=>2*i+1:=by
 unfold qs cH
 rw [Int.toNat_natCast]
 congr 1
 have h1:=(AD hr hv).2
 generalize (dz g p g.n.toNat).getD v []=l at h1
 rw [← List.map_reverse,List.map_map]
 have e:(iJ l).reverse=l.reverse.filter fun t=> !decide (t.1= -1):=by
  unfold iJ
  rw [List.filter_reverse]
  congr 1
  refine List.filter_congr fun t ht=> ?_
  rcases h1 t ht with h2|h2
  ·rw [decide_eq_false (by omega),decide_eq_true h2];rfl
  ·rw [decide_eq_true h2.1,decide_eq_false (by omega)];rfl
 rw [e]
 rfl
section
variable {g:Gr} {p:Pl} (hrun:bM g p) (hI:jV g=true) (h0:0<g.es.length) (Il:g.es.length≤60)
include hrun hI h0 Il
end
end Go.Ab
end
section
namespace Go.Ab
open Go.Proofs
set_option maxRecDepth 10000
set_option linter.unusedSectionVars false
def jr (f:Int→Int):Nat→Int→Int
 |0,h=>h
 |n+1,h=>f (jr f n h)
theorem pW {f:Int→Int} {h:Int} :∀ {m n:Nat},jr f (m+n) h=jr f m (jr f n h)
 |0,n=>by rw [Nat.zero_add];rfl
 |m+1,n=>by rw [Nat.add_right_comm];show f _=f _;rw [pW]
def jo (f:Int→Int) (M:Nat) (h:Int):Nat:=(List.range M).findIdx (fun j=>decide (jr f (j+1) h=h))+1
def s6 (f:Int→Int) (M:Nat) (h:Int):List Int:=(List.range (jo f M h)).map fun j=>jr f j h
def BZ (f:Int→Int) (h:Int) (n:Nat):Bool:=(List.range n).all fun j=>decide (j=0)||decide (h<jr f j h)
def bR (f:Int→Int) (M k:Nat):List (List Int):=((List.range k).filter fun h:Nat=>BZ f (h:Int) (jo f M (h:Int))).map fun h:Nat=>s6 f M (h:Int)
def Rc (f:Int→Int) (a b:Int):Prop:=∃n,jr f n a=b
theorem Rc.trans {f:Int→Int} {a b c:Int} :Rc f a b→Rc f b c→Rc f a c:=fun ⟨n,hn⟩ ⟨m,hm⟩=>⟨m+n,by rw [pW,hn,hm]⟩
theorem Rc.one {f:Int→Int} {a:Int} :Rc f a (f a):=⟨1,rfl⟩
theorem uD {g:Nat→Int} :∀ {n:Nat},(∀i j,i<j→j<n→g i≠g j)→((List.range n).map g).Nodup
 |0,_=>by simp
 |n+1,h=>by
  rw [List.range_succ,List.map_append,List.nodup_append]
  refine ⟨uD fun i j hi hj=>h i j hi (by omega),by simp,fun a ha b hb=> ?_⟩
  obtain ⟨i,hi,rfl⟩:=List.mem_map.1 ha
  simp only [List.map_cons,List.map_nil,List.mem_singleton] at hb
  subst hb
  exact h i n (List.mem_range.1 hi) (by omega)
section
variable {f:Int→Int} {M:Nat} (hm:∀h:Int,0≤h→h<M→0≤f h∧f h<M) (hi:∀a b:Int,0≤a→a<M→0≤b→b<M→f a=f b→a=b)
include hm
theorem fU {h:Int} (h0:0≤h) (h1:h<M):∀ {n:Nat},0≤jr f n h∧jr f n h<M
 |0=>⟨h0,h1⟩
 |n+1=>hm _ (fU h0 h1 (n:=n)).1 (fU h0 h1 (n:=n)).2
include hi
theorem Eo {a b:Int} (a0:0≤a) (a1:a<M) (b0:0≤b) (b1:b<M):∀ {n:Nat},jr f n a=jr f n b→a=b
 |0,e=>e
 |n+1,e=>Eo a0 a1 b0 b1 (n:=n) (hi _ _ (fU hm a0 a1).1 (fU hm a0 a1).2 (fU hm b0 b1).1 (fU hm b0 b1).2 e)
theorem Ip {h:Int} (h0:0≤h) (h1:h<M):∃j,j<M∧jr f (j+1) h=h:=by
 refine Decidable.byContradiction fun hne=> ?_
 have b8:((List.range (M+1)).map fun j=>jr f j h).Nodup:=uD fun i j hij hj e=>by
  have e2:jr f j h=jr f i (jr f (j - i) h):=by rw [← pW];congr 1;omega
  rw [e2] at e
  have r:=fU hm h0 h1 (n:=j - i)
  have:=Eo hm hi h0 h1 r.1 r.2 e
  exact hne ⟨j - i - 1,by omega,by rw [show j - i - 1+1=j - i by omega];exact this.symm⟩
 have:=iz b8 (m:=(List.range M).map Int.ofNat) fun x hx=>by
  obtain ⟨j,_,rfl⟩:=List.mem_map.1 hx
  have r:=fU hm h0 h1 (n:=j)
  exact List.mem_map.2 ⟨(jr f j h).toNat,List.mem_range.2 (by omega),by show ((jr f j h).toNat:Int)=_;omega⟩
 simp at this
 omega
theorem pX {h:Int} (h0:0≤h) (h1:h<M):1≤jo f M h∧jo f M h≤M∧jr f (jo f M h) h=h∧∀j,0<j→j<jo f M h→jr f j h≠h:=by
 obtain ⟨j,hj,e⟩:=Ip hm hi h0 h1
 have hlt:(List.range M).findIdx (fun j=>decide (jr f (j+1) h=h))<(List.range M).length:=List.findIdx_lt_length_of_exists ⟨j,List.mem_range.2 hj,by simpa using e⟩
 rw [List.length_range] at hlt
 have Q6:=hlt
 refine ⟨by unfold jo;omega,by unfold jo;omega, ?_,fun j' h2 h3 e'=> ?_⟩
 ·have:=List.findIdx_getElem (xs:=List.range M) (p:=fun j=>decide (jr f (j+1) h=h)) (w:=by rw [List.length_range];exact hlt)
  simpa [jo] using this
 ·unfold jo at h3
  have:=List.not_of_lt_findIdx (i:=j' - 1) (p:=fun j=>decide (jr f (j+1) h=h)) (xs:=List.range M) (by omega)
  rw [List.getElem_range] at this
  rw [show j' - 1+1=j' by omega] at this
  simp [e'] at this
theorem zv {h:Int} (h0:0≤h) (h1:h<M):∀ {q:Nat},jr f (q*jo f M h) h=h
 |0=>by rw [Nat.zero_mul];rfl
 |q+1=>by rw [Nat.succ_mul,pW,(pX hm hi h0 h1).2.2.1,zv h0 h1]
theorem kF {h b:Int} (h0:0≤h) (h1:h<M):b∈s6 f M h↔Rc f h b:=by
 obtain ⟨p1,p2,p3,p4⟩:=pX hm hi h0 h1
 unfold s6
 rw [List.mem_map]
 refine ⟨fun ⟨j,_,e⟩=>⟨j,e⟩,fun ⟨n,e⟩=>⟨n % jo f M h,List.mem_range.2 (Nat.mod_lt _ p1), ?_⟩⟩
 rw [← e]
 conv=>rhs;rw [← Nat.mod_add_div n (jo f M h),pW,Nat.mul_comm,zv hm hi h0 h1]
theorem Rc.symm {a b:Int} (h0:0≤a) (h1:a<M) (h:Rc f a b):Rc f b a:=by
 obtain ⟨p1,p2,p3,p4⟩:=pX hm hi h0 h1
 obtain ⟨n,rfl⟩:=h
 have:n≤n*jo f M a:=Nat.le_mul_of_pos_right _ p1
 exact ⟨n*jo f M a - n,by rw [← pW,Nat.sub_add_cancel this,zv hm hi h0 h1]⟩
theorem Ep {h:Int} (h0:0≤h) (h1:h<M):BZ f h (jo f M h)=true↔∀b,Rc f h b→h≤b:=by
 obtain ⟨p1,p2,p3,p4⟩:=pX hm hi h0 h1
 unfold BZ
 rw [List.all_eq_true]
 refine ⟨fun hh b hb=> ?_,fun hh j hj=> ?_⟩
 ·rw [← kF hm hi h0 h1] at hb
  obtain ⟨j,hj,rfl⟩:=List.mem_map.1 hb
  have:=hh j hj
  rw [Bool.or_eq_true,decide_eq_true_eq,decide_eq_true_eq] at this
  rcases this with rfl|h2
  ·exact Int.le_refl _
  ·show h≤jr f j h;omega
 ·rw [Bool.or_eq_true,decide_eq_true_eq,decide_eq_true_eq]
  by_cases hz:j=0
  ·exact .inl hz
  ·have:=hh _ ⟨j,rfl⟩
   have:=p4 j (by omega) (List.mem_range.1 hj)
   right;omega
theorem mz {l:List Int} :l∈bR f M M↔∃h:Nat,h<M∧(∀b,Rc f h b→(h:Int)≤b)∧l=s6 f M h:=by
 unfold bR
 simp only [List.mem_map,List.mem_filter,List.mem_range]
 constructor
 ·rintro ⟨h,⟨h1,h2⟩,rfl⟩
  exact ⟨h,h1,(Ep hm hi (by omega) (by omega)).1 h2,rfl⟩
 ·rintro ⟨h,h1,h2,rfl⟩
  exact ⟨h,⟨h1,(Ep hm hi (by omega) (by omega)).2 h2⟩,rfl⟩
theorem AG:∀ {d:Nat} {a:Int},a.toNat<d→0≤a→a<M→∃h:Nat,h<M∧(∀b,Rc f h b→(h:Int)≤b)∧Rc f h a
 |0,a,hd,_,_=>by omega
 |d+1,a,hd,h0,h1=>by
  by_cases hl:∀b,Rc f a b→a≤b
  ·exact ⟨a.toNat,by omega,by rw [Int.toNat_of_nonneg h0];exact hl,by rw [Int.toNat_of_nonneg h0];exact ⟨0,rfl⟩⟩
  ·obtain ⟨b,hb⟩:=Classical.not_forall.1 hl
   have ak:Rc f a b:=Classical.byContradiction fun hn=>hb fun h=>absurd h hn
   have an:b<a:=by
    refine Int.not_le.1 fun hle=>hb fun _=>hle
   obtain ⟨n,rfl⟩:=ak
   have r:=fU hm h0 h1 (n:=n)
   obtain ⟨h,g1,g2,g3⟩:=AG (d:=d) (a:=jr f n a) (by omega) r.1 r.2
   exact ⟨h,g1,g2,g3.trans (Rc.symm hm hi h0 h1 ⟨n,rfl⟩)⟩
end
def wj (A:List Int) (l:List Int) (k:Int):List Int:=l.foldl (fun A h=>A.set h.toNat k) A
def nI (ls:List (List Int)) (A:List Int):Nat→List Int
 |0=>A
 |k+1=>wj (nI ls A k) (ls.getD k []) k
theorem zw {k:Int} :∀ {l A:List Int},(wj A l k).length=A.length
 | [],_=>rfl
 |h::l,A=>by show (wj (A.set h.toNat k) l k).length=_;rw [zw,List.length_set]
theorem vS {ls:List (List Int)} {A:List Int} :∀ {k:Nat},(nI ls A k).length=A.length
 |0=>rfl
 |k+1=>by show (wj _ _ _).length=_;rw [zw,vS]
theorem vU {k:Int} {a:Nat} :∀ {l A:List Int},(∀h∈l,h.toNat≠a)→(wj A l k).getD a 0=A.getD a 0
 | [],_,_=>rfl
 |h::l,A,hh=>by
  show (wj (A.set h.toNat k) l k).getD a 0=_
  rw [vU fun h' hm=>hh h' (List.mem_cons_of_mem _ hm)]
  rw [List.getD_eq_getElem?_getD,List.getD_eq_getElem?_getD,List.getElem?_set_ne (hh h (List.mem_cons_self ..))]
theorem Er {k:Int} {a:Nat} :∀ {l A:List Int},a<A.length→(∃h∈l,h.toNat=a)→(wj A l k).getD a 0=k
 | [],_,_,h=>by simp at h
 |h::l,A,hl,hh=>by
  show (wj (A.set h.toNat k) l k).getD a 0=_
  by_cases h1:∃h∈l,h.toNat=a
  ·exact Er (by simpa using hl) h1
  ·have h2:h.toNat=a:=by
    obtain ⟨h',h3,h4⟩:=hh
    rcases List.mem_cons.1 h3 with rfl|h5
    ·exact h4
    ·exact absurd ⟨h',h5,h4⟩ h1
   rw [vU fun h' hm e=>h1 ⟨h',hm,e⟩,h2]
   simp [List.getD_eq_getElem?_getD,hl]
theorem AH {ls:List (List Int)} {A:List Int} {a:Nat} (ha:a<A.length) {k':Nat} (h1:∃h∈ls.getD k' [],h.toNat=a) (hd:∀k,k≠k'→∀h∈ls.getD k [],h.toNat≠a):∀ {k:Nat},k'<k→(nI ls A k).getD a 0=k'
 |0,h=>by omega
 |k+1,h=>by
  show (wj (nI ls A k) (ls.getD k []) k).getD a 0=_
  by_cases e:k=k'
  ·subst e;exact Er (by rw [vS];exact ha) h1
  ·rw [vU (hd k e)];exact AH ha h1 hd (by omega)
section
variable {f:Int→Int} {M:Nat} (hm:∀h:Int,0≤h→h<M→0≤f h∧f h<M) (hi:∀a b:Int,0≤a→a<M→0≤b→b<M→f a=f b→a=b)
include hm hi
theorem Es:(bR f M M).Nodup:=by
 unfold bR
 refine List.pairwise_map.2 (List.Pairwise.imp (R:=fun a b=>a≠b) ?_ (List.Pairwise.filter _ List.nodup_range))
 intro a b hab e
 have h1:∀h:Nat,(s6 f M h).getD 0 0=h:=fun h=>by
  unfold s6 jo
  rw [List.range_succ_eq_map,List.map_cons];rfl
 have:=h1 a
 rw [e,h1 b] at this
 omega
theorem Et {a b:Nat} (ha:a<M) (hb:b<M):(nI (bR f M M) (List.replicate M 0) (bR f M M).length).getD a 0=(nI (bR f M M) (List.replicate M 0) (bR f M M).length).getD b 0↔Rc f a b:=by
 have key:∀a:Nat,a<M→∃k:Nat,k<(bR f M M).length∧(nI (bR f M M) (List.replicate M 0) (bR f M M).length).getD a 0=k∧(a:Int)∈(bR f M M).getD k []:=by
  intro a ha
  obtain ⟨h,h1,h2,h3⟩:=AG hm hi (d:=a+1) (a:=a) (by omega) (by omega) (by omega)
  have hmem:s6 f M h∈bR f M M:=(mz hm hi).2 ⟨h,h1,h2,rfl⟩
  obtain ⟨k,hk,ek⟩:=List.getElem_of_mem hmem
  have Q7:(bR f M M).getD k []=s6 f M h:=by rw [List.getD_eq_getElem?_getD,List.getElem?_eq_getElem hk];exact ek
  have hin:(a:Int)∈(bR f M M).getD k []:=by rw [Q7];exact (kF hm hi (by omega) (by omega)).2 h3
  refine ⟨k,hk,AH (by simpa using ha) ⟨a,hin,by simp⟩ (fun k2 hne x hx e=> ?_) hk,hin⟩
  by_cases hk2:k2<(bR f M M).length
  ·have hm2:(bR f M M)[k2]∈bR f M M:=List.getElem_mem hk2
   have e2:(bR f M M).getD k2 []=(bR f M M)[k2]:=by rw [List.getD_eq_getElem?_getD,List.getElem?_eq_getElem hk2];rfl
   rw [e2] at hx
   obtain ⟨h',g1,g2,g3⟩:=(mz hm hi).1 hm2
   rw [g3] at hx
   have hx':=(kF hm hi (by omega) (by omega)).1 hx
   obtain ⟨n,rfl⟩:=hx'
   have r:=fU hm (h:=(h':Int)) (by omega) (by omega) (n:=n)
   have ex:jr f n (h':Int)=(a:Int):=by omega
   have hR:Rc f h' h:=(show Rc f h' a from ⟨n,ex⟩).trans (Rc.symm hm hi (by omega) (by omega) h3)
   have l1:=g2 _ hR
   have l2:=h2 _ (Rc.symm hm hi (by omega) (by omega) hR)
   have:h'=h:=by omega
   subst this
   have:=(List.getElem_inj (Es hm hi)).1 (g3.trans ek.symm)
   exact hne this
  ·rw [List.getD_eq_getElem?_getD,List.getElem?_eq_none (by omega)] at hx
   simp at hx
 obtain ⟨ka,k1,k2,k3⟩:=key a ha
 obtain ⟨kb,q1,q2,q3⟩:=key b hb
 have hsame:∀ {k:Nat} {x y:Int},x∈(bR f M M).getD k []→y∈(bR f M M).getD k []→Rc f x y:=by
  intro k x y hx hy
  by_cases hk:k<(bR f M M).length
  ·have e2:(bR f M M).getD k []=(bR f M M)[k]:=by rw [List.getD_eq_getElem?_getD,List.getElem?_eq_getElem hk];rfl
   rw [e2] at hx hy
   obtain ⟨h',g1,g2,g3⟩:=(mz hm hi).1 (List.getElem_mem hk)
   rw [g3] at hx hy
   exact (Rc.symm hm hi (by omega) (by omega) ((kF hm hi (by omega) (by omega)).1 hx)).trans ((kF hm hi (by omega) (by omega)).1 hy)
  ·rw [List.getD_eq_getElem?_getD,List.getElem?_eq_none (by omega)] at hx
   simp at hx
 rw [k2,q2]
 refine ⟨fun e=> ?_,fun hR=> ?_⟩
 ·have:ka=kb:=by omega
  subst this;exact hsame k3 q3
 ·obtain ⟨h',g1,g2,g3⟩:=(mz hm hi).1 (List.getElem_mem k1)
  obtain ⟨h'',g4,g5,g6⟩:=(mz hm hi).1 (List.getElem_mem q1)
  have e2:(bR f M M).getD ka []=(bR f M M)[ka]:=by rw [List.getD_eq_getElem?_getD,List.getElem?_eq_getElem k1];rfl
  have e3:(bR f M M).getD kb []=(bR f M M)[kb]:=by rw [List.getD_eq_getElem?_getD,List.getElem?_eq_getElem q1];rfl
  rw [e2,g3] at k3
  rw [e3,g6] at q3
  have r1:=(kF hm hi (by omega) (by omega)).1 k3
  have r2:=(kF hm hi (by omega) (by omega)).1 q3
  have r3:Rc f h' h'':=(r1.trans hR).trans (Rc.symm hm hi (by omega) (by omega) r2)
  have l1:=g2 _ r3
  have l2:=g5 _ (Rc.symm hm hi (by omega) (by omega) r3)
  have:h'=h'':=by omega
  subst this
  have:=(List.getElem_inj (Es hm hi)).1 (g3.trans g6.symm)
  omega
end
end Go.Ab
end
section
namespace Go.Ab
open Go.Proofs
set_option maxRecDepth 10000
set_option linter.unusedSectionVars false
def nJ (g:Gr) (h:Int):Int:=if h % 2=0 then iB g (h / 2) else jj g (h / 2)
def gr (h:Int):Int:=if h % 2=1 then h - 1 else h+1
def nK (l:List Int) (o:Int):Int:=l.getD ((l.idxOf o+1) % l.length) 0
def fc (g:Gr) (r:List (List Int)) (h:Int):Int:=nK (r.getD (nJ g (gr h)).toNat []) (gr h)
structure uE (g:Gr) (r:List (List Int)):Prop where
 len:r.length=g.n.toNat
 nd:∀x:Nat,x<g.n.toNat→(r.getD x []).Nodup
 mem:∀x:Nat,x<g.n.toNat→∀h,h∈r.getD x []↔(0≤h∧h<2*(g.es.length:Int))∧nJ g h=x
theorem qO {h:Int} {m:Nat} (h0:0≤h) (h1:h<2*(m:Int)):0≤gr h∧gr h<2*(m:Int):=by
 unfold gr;split<;>omega
theorem Gg {a b:Int} (e:gr a=gr b):a=b:=by
 unfold gr at e;split at e<;>split at e<;>omega
theorem pY {g:Gr} (hm:aP g=true) {h:Int} (h0:0≤h) (h1:h<2*(g.es.length:Int)):0≤nJ g h∧nJ g h<g.n:=by
 have:=eA hm (k:=(h / 2).toNat) (by omega)
 unfold nJ iB jj
 split
 ·exact this.1
 ·exact this.2
theorem Eu {l:List Int} {o:Int} (h:o∈l):nK l o∈l:=by
 have:0<l.length:=List.length_pos_of_mem h
 exact aV (Nat.mod_lt _ this)
theorem Gh {l:List Int} (hn:l.Nodup) {a b:Int} (ha:a∈l) (hb:b∈l) (e:nK l a=nK l b):a=b:=by
 have h1:=List.idxOf_lt_length_of_mem ha
 have h2:=List.idxOf_lt_length_of_mem hb
 have hl:0<l.length:=by omega
 unfold nK at e
 have m1:=Nat.mod_lt (l.idxOf a+1) hl
 have m2:=Nat.mod_lt (l.idxOf b+1) hl
 rw [List.getD_eq_getElem?_getD,List.getD_eq_getElem?_getD,List.getElem?_eq_getElem m1,List.getElem?_eq_getElem m2] at e
 have e:=(List.getElem_inj hn).1 (show l[_]=l[_] from e)
 have:l.idxOf a=l.idxOf b:=by
  rcases Nat.lt_or_ge (l.idxOf a+1) l.length with q1|q1<;>rcases Nat.lt_or_ge (l.idxOf b+1) l.length with q2|q2
  ·rw [Nat.mod_eq_of_lt q1,Nat.mod_eq_of_lt q2] at e;omega
  ·rw [Nat.mod_eq_of_lt q1,show l.idxOf b+1=l.length by omega,Nat.mod_self] at e;omega
  ·rw [Nat.mod_eq_of_lt q2,show l.idxOf a+1=l.length by omega,Nat.mod_self] at e;omega
  ·omega
 have g1:=List.getElem_idxOf h1
 have g2:=List.getElem_idxOf h2
 rw [← g1, ← g2]
 congr 1
theorem Ev {u v:List Int} {o:Int} (hn:(u++o::v).Nodup):(u++o::v).idxOf o=u.length:=by
 have ho:o∉u:=fun h=>by
  rw [List.nodup_append] at hn
  exact hn.2.2 o h o (List.mem_cons_self ..) rfl
 rw [List.idxOf_append,if_neg ho];simp
theorem vV {l u v:List Int} {o q:Int} (hn:l.Nodup) (e:l=u++o::q::v):nK l o=q:=by
 subst e
 unfold nK
 rw [Ev hn,Nat.mod_eq_of_lt (by simp)]
 simp [List.getD_eq_getElem?_getD,List.getElem?_append_right]
theorem AI {l u:List Int} {o:Int} (hn:l.Nodup) (e:l=u++ [o]):nK l o=l.getD 0 0:=by
 subst e
 unfold nK
 rw [Ev hn,show u.length+1=(u++ [o]).length by simp,Nat.mod_self]
section
variable {g:Gr} {r:List (List Int)} (hm:aP g=true) (hr:uE g r)
include hm hr
theorem qP {h:Int} (h0:0≤h) (h1:h<2*(g.es.length:Int)):h∈r.getD (nJ g h).toNat []:=by
 have:=pY hm h0 h1
 exact (hr.mem _ (by omega) h).2 ⟨⟨h0,h1⟩,by omega⟩
theorem mA {h:Int} (h0:0≤h) (h1:h<2*(g.es.length:Int)):(0≤fc g r h∧fc g r h<2*(g.es.length:Int))∧nJ g (fc g r h)=nJ g (gr h):=by
 have ho:=qO h0 h1
 have ha:=pY hm ho.1 ho.2
 have:=(hr.mem (nJ g (gr h)).toNat (by omega) _).1 (Eu (qP hm hr ho.1 ho.2))
 exact ⟨this.1,by show nJ g (nK _ _)=_;rw [this.2];omega⟩
theorem vW {a b:Int} (a0:0≤a) (a1:a<2*(g.es.length:Int)) (b0:0≤b) (b1:b<2*(g.es.length:Int)) (e:fc g r a=fc g r b):a=b:=by
 have h1:=(mA hm hr a0 a1).2
 have h2:=(mA hm hr b0 b1).2
 rw [e,h2] at h1
 have oa:=qO a0 a1
 have ob:=qO b0 b1
 have ha:=pY hm oa.1 oa.2
 refine Gg (Gh (hr.nd (nJ g (gr a)).toNat (by omega)) (qP hm hr oa.1 oa.2) (by rw [← h1];exact qP hm hr ob.1 ob.2) ?_)
 have e:nK _ _=nK _ _:=e
 rw [h1] at e
 exact e
theorem AJ {x:Nat} :(r.getD x []).length≤2*g.es.length:=by
 by_cases hx:x<g.n.toNat
 ·have:=iz (hr.nd x hx) (m:=(List.range (2*g.es.length)).map Int.ofNat) fun h hh=>by
   have:=((hr.mem x hx h).1 hh).1
   exact List.mem_map.2 ⟨h.toNat,List.mem_range.2 (by omega),by show (h.toNat:Int)=_;omega⟩
  simpa using this
 ·rw [List.getD_eq_getElem?_getD,List.getElem?_eq_none (by rw [hr.len];omega)];simp
end
end Go.Ab
end
section
namespace Go.Ab
open Go.Proofs
attribute [local congr] ACall.congr gd.congr Nx.congr
set_option maxRecDepth 20000
set_option maxHeartbeats 16000000
theorem yb (g:Gr) (hm:aP g=true) (h:Int) (h0:0≤h) (h1:h<2*(g.es.length:Int)):Spec Tryz.prog 50 (Args [eG g,eN h]) [] (eN (nJ g h)) []:=by
 have hn:=aU hm
 obtain ⟨k,hk⟩:∃k:Nat,h / 2=(k:Int):=⟨(h / 2).toNat,by omega⟩
 have ck:k<g.es.length:=by omega
 have hq1:h.tmod 2=h % 2:=Int.tmod_eq_emod_of_nonneg h0
 have xd:h.tdiv 2=(k:Int):=by rw [Int.tdiv_eq_ediv_of_nonneg h0,hk]
 (refine Spec.hd (C:=T.cfg [] []) (rs:= [.t 4]) (T.ai _ _) Tryz.func50 rfl rfl Tryz.ntmps50 Tryz.results50 (by simp [AObj.isNest]) (by simp [AObj.isNest]) (by kernel_rfl) T.mixed fun X hX hP hC aK cw=> ?_)
 rcases (show h % 2=0∨h % 2=1 by omega) with hz|hz
 ·have hA:nJ g h=(g.es.getD k (0,0)).1:=by unfold nJ iB;rw [if_pos hz,hk,Int.toNat_natCast]
  rw [hA]
  repeat' (first|refine Rn.p ?_|(with_reducible apply And.intro)|((first|(refine hK _ ?_;clear hK K)|with_reducible intro K hK|refine Rs.p ?_|((with_reducible first|apply oP|apply oQ);exact rfl));try simp only [go_sem,simprocAttr,hq1,xd,hz])|((with_reducible refine oD ?_ ?_);kernel_rfl)|((with_reducible intro h);try simp only [go_sem,simprocAttr,hq1,xd,hz] at h)|omega|intro h)
 ·have hA:nJ g h=(g.es.getD k (0,0)).2:=by unfold nJ jj;rw [if_neg (by omega),hk,Int.toNat_natCast]
  rw [hA]
  repeat' (first|refine Rn.p ?_|(with_reducible apply And.intro)|((first|(refine hK _ ?_;clear hK K)|with_reducible intro K hK|refine Rs.p ?_|((with_reducible first|apply oP|apply oQ);exact rfl));try simp only [go_sem,simprocAttr,hq1,xd,hz])|((with_reducible refine oD ?_ ?_);kernel_rfl)|((with_reducible intro h);try simp only [go_sem,simprocAttr,hq1,xd,hz] at h)|omega|intro h)
theorem zx (g:Gr) (hm:aP g=true) (r:List (List Int)) (hr:uE g r) (h:Int) (h0:0≤h) (h1:h<2*(g.es.length:Int)):Spec Tryz.prog 51 (Args [eG g, .d (.sl 1 (vI r)),eN h]) [] (eN (fc g r h)) []:=by
 have hn:=aU hm
 have ho:=qO h0 h1
 have ha:=pY hm ho.1 ho.2
 have Gi:=yb g hm (gr h) ho.1 ho.2
 have hmem:=qP hm hr ho.1 ho.2
 obtain ⟨x,hx⟩:∃x:Nat,nJ g (gr h)=(x:Int):=⟨(nJ g (gr h)).toNat,by omega⟩
 have hrl:=hr.len
 have j3:=fun d=>fq (ls:=r) (k:=x) (by omega) d
 have lZ:=AJ hm hr (x:=x)
 have dV:fc g r h=(r.getD x []).getD (((r.getD x []).idxOf (gr h)+1) % (r.getD x []).length) 0:=by unfold fc nK;rw [hx,Int.toNat_natCast]
 rw [dV]
 rw [hx] at Gi hmem
 rw [Int.toNat_natCast] at hmem
 have hq1:h.tmod 2=h % 2:=Int.tmod_eq_emod_of_nonneg h0
 generalize r.getD x []=l at j3 lZ hmem
 have hid:=List.idxOf_lt_length_of_mem hmem
 have x5:∀i,i<l.idxOf (gr h)→l.getD i 0≠gr h:=fun i hi e=>by
  have:=List.not_of_lt_findIdx (xs:=l) (p:=fun y=>y==gr h) (i:=i) hi
  rw [List.getD_eq_getElem?_getD,List.getElem?_eq_getElem (by omega)] at e
  simp only [Option.getD_some] at e
  rw [e] at this
  simp at this
 have hge:l.getD (l.idxOf (gr h)) 0=gr h:=by
  rw [List.getD_eq_getElem?_getD,List.getElem?_eq_getElem hid];exact List.getElem_idxOf hid
 have OV:gr h=if h % 2=1 then h - 1 else h+1:=rfl
 generalize gr h=o at*
 generalize l.idxOf o=q at*
 (refine Spec.hd (C:=T.cfg [] []) (rs:= [.t 6]) (T.ai _ _) Tryz.func51 rfl rfl Tryz.ntmps51 Tryz.results51 (by simp [AObj.isNest]) (by simp [AObj.isNest]) (by kernel_rfl) T.mixed fun X hX hP hC aK cw=> ?_)
 rcases (show h % 2=0∨h % 2=1 by omega) with hz|hz
 ·have e:h+1=o:=by rw [OV,if_neg (by omega)]
  repeat' (first|refine Rn.p ?_|(with_reducible apply And.intro)|((first|(refine hK _ ?_;clear hK K)|with_reducible intro K hK|refine Rs.p ?_|((with_reducible first|apply oP|apply oQ);exact rfl)|refine aa hX hC hP (Gi) rfl rfl rfl (by simp only [go_sem,simprocAttr,vI_length,j3,hq1,hz,e]) rfl ?_);try simp only [go_sem,simprocAttr,vI_length,j3,hq1,hz,e])|((with_reducible refine oD ?_ ?_);kernel_rfl)|((with_reducible intro h);try simp only [go_sem,simprocAttr,vI_length,j3,hq1,hz,e] at h)|omega|intro h)
  refine ag (fun i:Nat=>i≤q) (fun i=>⟨[(7,eN o),(8, .d (sI l)),(9,eN i)], []⟩) (fun i=>q - i) 0 (by omega) ?_ ?_
  ·refine Le.of ?_ ?_<;>simp [go_sem,simprocAttr]
  rintro i hi
  have ak:decide ((i:Int)<(l.length:Int))=true:=decide_eq_true (by omega)
  rcases Nat.lt_or_ge i q with KU|KU
  ·have hne:decide (l.getD i 0=o)=false:=decide_eq_false (x5 i KU)
   repeat' (first|refine Rn.p ?_|(with_reducible apply And.intro)|((first|(refine hK _ ?_;clear hK K)|with_reducible intro K hK|refine Rs.p ?_|((with_reducible first|apply oP|apply oQ);exact rfl)|refine aa hX hC hP (Gi) rfl rfl rfl (by simp only [go_sem,simprocAttr,ak,hne]) rfl ?_);try simp only [go_sem,simprocAttr,ak,hne])|((with_reducible refine oD ?_ ?_);kernel_rfl)|((with_reducible intro h);try simp only [go_sem,simprocAttr,ak,hne] at h)|omega|intro h)
   refine ⟨i+1,by omega, ?_,by omega⟩
   refine Le.of ?_ ?_<;>simp [go_sem,simprocAttr,ak,hne]
  ·obtain rfl:i=q:=by omega
   have hne:decide (l.getD i 0=o)=true:=decide_eq_true hge
   have Gj:((i:Int)+1).tmod (l.length:Int)=(((i+1) % l.length:Nat):Int):=by
    rw [Int.tmod_eq_emod_of_nonneg (by omega)];exact (Int.natCast_emod (i+1) l.length).symm
   have hml:(i+1) % l.length<l.length:=Nat.mod_lt _ (by omega)
   generalize (i+1) % l.length=z at Gj hml ⊢
   repeat' (first|refine Rn.p ?_|(with_reducible apply And.intro)|((first|(refine hK _ ?_;clear hK K)|with_reducible intro K hK|refine Rs.p ?_|((with_reducible first|apply oP|apply oQ);exact rfl)|refine aa hX hC hP (Gi) rfl rfl rfl (by simp only [go_sem,simprocAttr,ak,hne,Gj]) rfl ?_);try simp only [go_sem,simprocAttr,ak,hne,Gj])|((with_reducible refine oD ?_ ?_);kernel_rfl)|((with_reducible intro h);try simp only [go_sem,simprocAttr,ak,hne,Gj] at h)|omega|intro h)
 ·have e:h - 1=o:=by rw [OV,if_pos hz]
  repeat' (first|refine Rn.p ?_|(with_reducible apply And.intro)|((first|(refine hK _ ?_;clear hK K)|with_reducible intro K hK|refine Rs.p ?_|((with_reducible first|apply oP|apply oQ);exact rfl)|refine aa hX hC hP (Gi) rfl rfl rfl (by simp only [go_sem,simprocAttr,vI_length,j3,hq1,hz,e]) rfl ?_);try simp only [go_sem,simprocAttr,vI_length,j3,hq1,hz,e])|((with_reducible refine oD ?_ ?_);kernel_rfl)|((with_reducible intro h);try simp only [go_sem,simprocAttr,vI_length,j3,hq1,hz,e] at h)|omega|intro h)
  refine ag (fun i:Nat=>i≤q) (fun i=>⟨[(7,eN o),(8, .d (sI l)),(9,eN i)], []⟩) (fun i=>q - i) 0 (by omega) ?_ ?_
  ·refine Le.of ?_ ?_<;>simp [go_sem,simprocAttr]
  rintro i hi
  have ak:decide ((i:Int)<(l.length:Int))=true:=decide_eq_true (by omega)
  rcases Nat.lt_or_ge i q with KU|KU
  ·have hne:decide (l.getD i 0=o)=false:=decide_eq_false (x5 i KU)
   repeat' (first|refine Rn.p ?_|(with_reducible apply And.intro)|((first|(refine hK _ ?_;clear hK K)|with_reducible intro K hK|refine Rs.p ?_|((with_reducible first|apply oP|apply oQ);exact rfl)|refine aa hX hC hP (Gi) rfl rfl rfl (by simp only [go_sem,simprocAttr,ak,hne]) rfl ?_);try simp only [go_sem,simprocAttr,ak,hne])|((with_reducible refine oD ?_ ?_);kernel_rfl)|((with_reducible intro h);try simp only [go_sem,simprocAttr,ak,hne] at h)|omega|intro h)
   refine ⟨i+1,by omega, ?_,by omega⟩
   refine Le.of ?_ ?_<;>simp [go_sem,simprocAttr,ak,hne]
  ·obtain rfl:i=q:=by omega
   have hne:decide (l.getD i 0=o)=true:=decide_eq_true hge
   have Gj:((i:Int)+1).tmod (l.length:Int)=(((i+1) % l.length:Nat):Int):=by
    rw [Int.tmod_eq_emod_of_nonneg (by omega)];exact (Int.natCast_emod (i+1) l.length).symm
   have hml:(i+1) % l.length<l.length:=Nat.mod_lt _ (by omega)
   generalize (i+1) % l.length=z at Gj hml ⊢
   repeat' (first|refine Rn.p ?_|(with_reducible apply And.intro)|((first|(refine hK _ ?_;clear hK K)|with_reducible intro K hK|refine Rs.p ?_|((with_reducible first|apply oP|apply oQ);exact rfl)|refine aa hX hC hP (Gi) rfl rfl rfl (by simp only [go_sem,simprocAttr,ak,hne,Gj]) rfl ?_);try simp only [go_sem,simprocAttr,ak,hne,Gj])|((with_reducible refine oD ?_ ?_);kernel_rfl)|((with_reducible intro h);try simp only [go_sem,simprocAttr,ak,hne,Gj] at h)|omega|intro h)
end Go.Ab
end
section
namespace Go.Ab
open Go.Proofs
attribute [local congr] ACall.congr gd.congr Nx.congr
set_option maxRecDepth 20000
set_option maxHeartbeats 16000000
theorem Ew {f:Int→Int} {M k:Nat} :bR f M (k+1)=bR f M k++if BZ f k (jo f M k)=true then [s6 f M k] else []:=by
 unfold bR
 rw [List.range_succ,List.filter_append,List.map_append]
 congr 1
 simp only [List.filter_cons,List.filter_nil]
 split<;>simp_all
theorem AK {f:Int→Int} {M k:Nat} :(bR f M k).length≤k:=by
 unfold bR
 rw [List.length_map]
 have:=List.length_filter_le (fun h:Nat=>BZ f (h:Int) (jo f M (h:Int))) (List.range k)
 rwa [List.length_range] at this
theorem Gk {f:Int→Int} {h:Int} {n:Nat} (hn:0<n):BZ f h (n+1)=(BZ f h n&&decide (h<jr f n h)):=by
 unfold BZ
 rw [List.range_succ,List.all_append]
 have:decide (n=0)=false:=decide_eq_false (by omega)
 simp [this]
def s7 (f:Int→Int) (h:Int) (n:Nat):List Int:=(List.range n).map fun j=>jr f j h
theorem B0 {f:Int→Int} {h:Int} {n:Nat} :s7 f h (n+1)=s7 f h n++ [jr f n h]:=by
 unfold s7
 rw [List.range_succ,List.map_append];rfl
theorem Ex {f:Int→Int} {h:Int} {n:Nat} :(s7 f h n).length=n:=by simp [s7]
theorem yc (g:Gr) (hm:aP g=true) (r:List (List Int)) (hr:uE g r):Spec Tryz.prog 14 (Args [eG g, .d (.sl 1 (vI r))]) [] (.d (.sl 1 (vI (bR (fc g r) (2*g.es.length) (2*g.es.length))))) []:=by
 have hn:=aU hm
 obtain ⟨M,hM⟩:∃M:Nat,M=2*g.es.length:=⟨_,rfl⟩
 have vX:2*(g.es.length:Int)=(M:Int):=by omega
 have OW:∀h:Int,0≤h→h<M→Spec Tryz.prog 51 (Args [eG g, .d (.sl 1 (vI r)),eN h]) [] (eN (fc g r h)) []:=fun h h0 h1=>zx g hm r hr h h0 (by omega)
 have hmap:∀h:Int,0≤h→h<M→0≤fc g r h∧fc g r h<M:=fun h h0 h1=>by have:=(mA hm hr h0 (by omega)).1;omega
 have hinj:∀a b:Int,0≤a→a<M→0≤b→b<M→fc g r a=fc g r b→a=b:=fun a b a0 a1 b0 b1 e=>vW hm hr a0 (by omega) b0 (by omega) e
 rw [← hM]
 have zu:∀l1 l2,vI (l1++ [l2])=vI l1++ [[sI l2]]:=fun l1 l2=>by simp [vI]
 generalize fc g r=f at*
 (refine Spec.hd (C:=T.cfg [] []) (rs:= [.t 4]) (T.ai _ _) Tryz.func14 rfl rfl Tryz.ntmps14 Tryz.results14 (by simp [AObj.isNest]) (by simp [AObj.isNest]) (by kernel_rfl) T.mixed fun X hX hP hC aK cw=> ?_)
 repeat' (first|refine Rn.p ?_|(with_reducible apply And.intro)|((first|(refine hK _ ?_;clear hK K)|with_reducible intro K hK|refine Rs.p ?_|((with_reducible first|apply oP|apply oQ);exact rfl));try simp only [go_sem,simprocAttr])|((with_reducible refine oD ?_ ?_);kernel_rfl)|((with_reducible intro h);try simp only [go_sem,simprocAttr] at h)|omega|intro h)
 (refine jd hX 5 10 46 (by simp only [go_sem,simprocAttr]) rfl (by first|exact .inl rfl|exact .inr rfl) (by decide) ?_;simp only [go_sem,simprocAttr])
 refine ag (fun k:Nat=>k≤M) (fun k=>⟨[(1, .d (.sl 1 (vI r))),(2, .ptr 2 0),(5, .ref 46),(6,eN k)], [(2, .box [eN g.n, .d (sE g.es)]),(46, .tip 25 1 (vI (bR f M k)))]⟩) (fun k=>M - k) 0 (by omega) ?_ ?_
 ·refine Le.of ?_ ?_<;>simp [go_sem,simprocAttr,bR,vI]
 rintro k hk
 have hfl:=AK (f:=f) (M:=M) (k:=k)
 rcases Nat.lt_or_ge k M with hlt|hge
 ·have ak:decide ((k:Int)<(M:Int))=true:=decide_eq_true (by omega)
  have Q8:=OW k (by omega) (by omega)
  have hfn:=Ew (f:=f) (M:=M) (k:=k)
  obtain ⟨p1,p2,p3,p4⟩:=pX hmap hinj (h:=(k:Int)) (by omega) (by omega)
  have jq:s6 f M k=s7 f k (jo f M k):=rfl
  rw [jq] at hfn
  generalize OX:bR f M (k+1)=F2 at hfn
  generalize bR f M k=F1 at hfn hfl
  generalize jo f M k=Lr at*
  repeat' (first|refine Rn.p ?_|(with_reducible apply And.intro)|((first|(refine hK _ ?_;clear hK K)|with_reducible intro K hK|refine Rs.p ?_|((with_reducible first|apply oP|apply oQ);exact rfl)|refine aa hX hC hP (Q8) rfl rfl rfl (by simp only [go_sem,simprocAttr,vX,ak,vI_length]) rfl ?_);try simp only [go_sem,simprocAttr,vX,ak,vI_length])|((with_reducible refine oD ?_ ?_);kernel_rfl)|((with_reducible intro h);try simp only [go_sem,simprocAttr,vX,ak,vI_length] at h)|omega|intro h)
  (refine jd hX 7 20 35 (by simp only [go_sem,simprocAttr,vX,ak,vI_length]) rfl (by first|exact .inl rfl|exact .inr rfl) (by decide) ?_;simp only [go_sem,simprocAttr,vX,ak,vI_length])
  refine ag (fun n:Nat=>1≤n∧n≤Lr) (fun n=>⟨[(1, .d (.sl 1 (vI r))),(2, .ptr 2 0),(5, .ref 46),(6,eN k),(7, .ref 35),(8,eB (BZ f k n)),(9,eN (jr f n k))], [(2, .box [eN g.n, .d (sE g.es)]),(46, .tip 25 1 (vI F1)),(35, .tip 3 1 ((s7 f k n).map rI))]⟩) (fun n=>Lr - n) 1 (by omega) ?_ ?_
  ·refine Le.of ?_ ?_<;>simp [go_sem,simprocAttr,s7,jr,BZ,rI]
  rintro n ⟨JJ,hn2⟩
  have ta:=fU hmap (h:=(k:Int)) (by omega) (by omega) (n:=n)
  have o7:=Ex (f:=f) (h:=k) (n:=n)
  rcases Nat.lt_or_ge n Lr with hnl|Se
  ·have hne:=p4 n (by omega) hnl
   have an:decide (jr f n k=(k:Int))=false:=decide_eq_false hne
   have NR:=OW _ ta.1 ta.2
   have hls:=Gk (f:=f) (h:=k) (n:=n) (by omega)
   have tf:=B0 (f:=f) (h:=k) (n:=n)
   have hit:jr f (n+1) k=f (jr f n k):=rfl
   rw [← hit] at NR
   generalize hY:jr f (n+1) k=y at NR hit
   generalize jr f n k=z at*
   generalize Lh:BZ f k (n+1)=b2 at hls
   generalize BZ f k n=b1 at hls ⊢
   generalize Q9:s7 f k (n+1)=O2 at tf
   generalize s7 f k n=O1 at tf o7 ⊢
   cases b1
   all_goals
    repeat' (first|refine Rn.p ?_|(with_reducible apply And.intro)|((first|(refine hK _ ?_;clear hK K)|with_reducible intro K hK|refine Rs.p ?_|((with_reducible first|apply oP|apply oQ);exact rfl)|refine aa hX hC hP (NR) rfl rfl rfl (by simp only [go_sem,simprocAttr,an,List.length_map,o7]) rfl ?_);try simp only [go_sem,simprocAttr,an,List.length_map,o7])|((with_reducible refine oD ?_ ?_);kernel_rfl)|((with_reducible intro h);try simp only [go_sem,simprocAttr,an,List.length_map,o7] at h)|omega|intro h)
    refine ⟨n+1,by omega, ?_,by omega⟩
    rw [Q9,tf,Lh,hls,hY]
    refine Le.of ?_ ?_<;>simp [go_sem,simprocAttr,an,List.length_map,o7,rI]
  ·obtain rfl:n=Lr:=by omega
   have an:decide (jr f n k=(k:Int))=true:=decide_eq_true p3
   generalize jr f n k=z at*
   generalize BZ f k n=b1 at hfn ⊢
   generalize s7 f k n=O1 at hfn o7 ⊢
   cases b1
   ·rw [if_neg (by simp),List.append_nil] at hfn
    repeat' (first|(show cl _ (.seq (.region 12 _ _) _) _ _;(refine cF hX 35 rfl ?_;simp only [go_sem,simprocAttr,an,List.length_map,o7,vI_length,zu]))|refine Rn.p ?_|(with_reducible apply And.intro)|((first|(refine hK _ ?_;clear hK K)|with_reducible intro K hK|refine Rs.p ?_|((with_reducible first|apply oP|apply oQ);exact rfl));try simp only [go_sem,simprocAttr,an,List.length_map,o7,vI_length,zu])|((with_reducible refine oD ?_ ?_);kernel_rfl)|((with_reducible intro h);try simp only [go_sem,simprocAttr,an,List.length_map,o7,vI_length,zu] at h)|omega|intro h)
    refine ⟨k+1,by omega, ?_,by omega⟩
    rw [OX,hfn]
    refine Le.of ?_ ?_<;>simp [go_sem,simprocAttr,an,List.length_map,o7,vI_length,zu]
   ·rw [if_pos rfl] at hfn
    repeat' (first|(show cl _ (.seq (.region 12 _ _) _) _ _;(refine cF hX 35 rfl ?_;simp only [go_sem,simprocAttr,an,List.length_map,o7,vI_length,zu]))|refine Rn.p ?_|(with_reducible apply And.intro)|((first|(refine hK _ ?_;clear hK K)|with_reducible intro K hK|refine Rs.p ?_|((with_reducible first|apply oP|apply oQ);exact rfl));try simp only [go_sem,simprocAttr,an,List.length_map,o7,vI_length,zu])|((with_reducible refine oD ?_ ?_);kernel_rfl)|((with_reducible intro h);try simp only [go_sem,simprocAttr,an,List.length_map,o7,vI_length,zu] at h)|omega|intro h)
    refine ⟨k+1,by omega, ?_,by omega⟩
    rw [OX,hfn]
    refine Le.of ?_ ?_<;>simp [go_sem,simprocAttr,an,List.length_map,o7,vI_length,zu]
 ·have ak:decide ((k:Int)<(M:Int))=false:=decide_eq_false (by omega)
  obtain rfl:k=M:=by omega
  repeat' (first|refine Rn.p ?_|(with_reducible apply And.intro)|((first|(refine hK _ ?_;clear hK K)|with_reducible intro K hK|refine Rs.p ?_|((with_reducible first|apply oP|apply oQ);exact rfl));try simp only [go_sem,simprocAttr,vX,ak,vI_length])|((with_reducible refine oD ?_ ?_);kernel_rfl)|((with_reducible intro h);try simp only [go_sem,simprocAttr,vX,ak,vI_length] at h)|omega|intro h)
end Go.Ab
end
section
namespace Go.Ab
open Go.Proofs
attribute [local congr] ACall.congr gd.congr Nx.congr
set_option maxRecDepth 20000
set_option linter.unusedSectionVars false
set_option maxHeartbeats 16000000
def mD (g:Gr) (r:List (List Int)) (M k i:Nat):List Int:=(List.range M).map fun h:Nat=>if nJ g (h:Int)<(k:Int)∨(nJ g (h:Int)=(k:Int)∧(h:Int)∈(r.getD k []).take i) then 1 else 0
theorem fY {g:Gr} {r:List (List Int)} {M k i:Nat} :(mD g r M k i).length=M:=by simp [mD]
theorem iZ {g:Gr} {r:List (List Int)} {M k i h:Nat} (hh:h<M):(mD g r M k i).getD h 0=if nJ g (h:Int)<(k:Int)∨(nJ g (h:Int)=(k:Int)∧(h:Int)∈(r.getD k []).take i) then 1 else 0:=by
 simp [mD,List.getD_eq_getElem?_getD,List.getElem?_range hh]
theorem Ey {l:List Int} {i:Nat} {z:Int} (hi:i<l.length) (hz:l.getD i 0=z):l.take (i+1)=l.take i++ [z]:=by
 rw [List.take_add_one,List.getElem?_eq_getElem hi, ← hz,List.getD_eq_getElem?_getD,List.getElem?_eq_getElem hi];rfl
section
variable {g:Gr} {r:List (List Int)} (hm:aP g=true) (hr:uE g r)
include hm hr
theorem KW {M:Nat} (hM:M=2*g.es.length):mD g r M 0 0=List.replicate M 0:=by
 refine jZ (by rw [fY,List.length_replicate]) fun h hh=> ?_
 rw [fY] at hh
 have:=pY hm (h:=(h:Int)) (by omega) (by omega)
 rw [iZ hh,if_neg (by simp;omega)]
 simp [List.getD_eq_getElem?_getD,hh]
theorem Gl {M k:Nat} (hM:M=2*g.es.length) (hk:k<g.n.toNat):mD g r M k (r.getD k []).length=mD g r M (k+1) 0:=by
 refine jZ (by rw [fY,fY]) fun h hh=> ?_
 rw [fY] at hh
 rw [iZ hh,iZ hh,List.take_length]
 have:=hr.mem k hk h
 by_cases e:nJ g (h:Int)=(k:Int)
 ·rw [if_pos (.inr ⟨e,this.2 ⟨⟨by omega,by omega⟩,e⟩⟩),if_pos (.inl (by omega))]
 ·by_cases e2:nJ g (h:Int)<(k:Int)
  ·rw [if_pos (.inl e2),if_pos (.inl (by omega))]
  ·rw [if_neg (by rintro (h1|h1);exact e2 h1;exact e h1.1),if_neg (by rintro (h1|h1);omega;simp at h1)]
theorem Ez {M h:Nat} (hM:M=2*g.es.length) (hh:h<M):(mD g r M g.n.toNat 0).getD h 0=1:=by
 have:=pY hm (h:=(h:Int)) (by omega) (by omega)
 rw [iZ hh,if_pos (.inl (by omega))]
theorem EA {M k i z:Nat} (hk:k<g.n.toNat) (hi:i<(r.getD k []).length) (hz:(r.getD k []).getD i 0=(z:Int)) (Iq:z<M) (ha:nJ g z=k):(mD g r M k i).getD z 0=0∧(mD g r M k i).set z 1=mD g r M k (i+1):=by
 have b8:=hr.nd k hk
 have ht:(r.getD k []).take (i+1)=(r.getD k []).take i++ [(z:Int)]:=by
  exact Ey hi hz
 have hnot:(z:Int)∉(r.getD k []).take i:=by
  have h1:((r.getD k []).take (i+1)).Nodup:=b8.sublist (List.take_sublist ..)
  rw [ht,List.nodup_append] at h1
  exact fun h=>h1.2.2 _ h _ (List.mem_singleton.2 rfl) rfl
 refine ⟨by rw [iZ Iq,if_neg (by rintro (h1|h1);omega;exact hnot h1.2)], ?_⟩
 refine jZ (by rw [List.length_set,fY,fY]) fun h hh=> ?_
 rw [List.length_set,fY] at hh
 rw [List.getD_eq_getElem?_getD,List.getElem?_set]
 by_cases e:z=h
 ·subst e
  rw [if_pos rfl,if_pos (by rw [fY];exact hh),iZ hh,if_pos (.inr ⟨ha,by rw [ht];simp⟩)];rfl
 ·rw [if_neg e, ← List.getD_eq_getElem?_getD,iZ hh,iZ hh,ht]
  have:((h:Int)∈(r.getD k []).take i++ [(z:Int)])↔(h:Int)∈(r.getD k []).take i:=by
   rw [List.mem_append,List.mem_singleton]
   exact ⟨fun h1=>h1.elim id fun h2=>absurd h2 (by omega), .inl⟩
  simp only [this]
end
theorem yd (g:Gr) (hm:aP g=true) (r:List (List Int)) (hr:uE g r):Spec Tryz.prog 13 (Args [eG g, .d (.sl 1 (vI r))]) [] (eB true) []:=by
 have hn:=aU hm
 have hM:=cB g (by omega)
 rw [hm] at hM
 have hrl:decide ((r.length:Int)=g.n)=true:=decide_eq_true (by rw [hr.len];omega)
 have Hu:=hr.len
 obtain ⟨M,hM1⟩:∃M:Nat,M=2*g.es.length:=⟨_,rfl⟩
 have vX:2*(g.es.length:Int)=(M:Int):=by omega
 have Gi:∀h:Int,0≤h→h<M→Spec Tryz.prog 50 (Args [eG g,eN h]) [] (eN (nJ g h)) []:=fun h h0 h1=>yb g hm h h0 (by omega)
 have c0:=KW hm hr hM1
 have gh:=fun k i=>fY (g:=g) (r:=r) (M:=M) (k:=k) (i:=i)
 (refine Spec.hd (C:=T.cfg [24] []) (rs:= [.t 4]) (T.ai _ _) Tryz.func13 rfl rfl Tryz.ntmps13 Tryz.results13 (by simp [AObj.isNest]) (by simp [AObj.isNest]) (by kernel_rfl) T.mixed fun X hX hP hC aK cw=> ?_)
 repeat' (first|refine Rn.p ?_|(with_reducible apply And.intro)|((first|(refine hK _ ?_;clear hK K)|with_reducible intro K hK|refine Rs.p ?_|((with_reducible first|apply oP|apply oQ);exact rfl)|refine aa hX hC hP (hM) rfl rfl rfl (by simp only [go_sem,simprocAttr,hrl,vI_length,vX,Int.toNat_natCast]) rfl ?_);try simp only [go_sem,simprocAttr,hrl,vI_length,vX,Int.toNat_natCast])|((with_reducible refine oD ?_ ?_);kernel_rfl)|((with_reducible intro h);try simp only [go_sem,simprocAttr,hrl,vI_length,vX,Int.toNat_natCast] at h)|omega|intro h)
 refine ag (fun k:Nat=>k≤r.length) (fun k=>⟨[(1, .d (.sl 1 (vI r))),(2, .ptr 2 0),(5, .ref 24),(6,eN k)], [(2, .box [eN g.n, .d (sE g.es)]),(24, .own 3 1 ((mD g r M k 0).map rI))]⟩) (fun k=>r.length - k) 0 (by omega) ?_ ?_
 ·refine Le.of ?_ ?_<;>simp [go_sem,simprocAttr,c0,rI]
 rintro k hk
 rcases Nat.lt_or_ge k r.length with hlt|hge
 ·have ak:decide ((k:Int)<(r.length:Int))=true:=decide_eq_true (by omega)
  have j3:=fun d=>fq (ls:=r) hlt d
  have lZ:=AJ hm hr (x:=k)
  have Ra:=Gl hm hr (k:=k) hM1 (by omega)
  have hst:=fun i z hi hz Iq ha=>EA hm hr (M:=M) (k:=k) (i:=i) (z:=z) (by omega) hi hz Iq ha
  have hme:=hr.mem k (by omega)
  generalize r.getD k []=l at*
  repeat' (first|refine Rn.p ?_|(with_reducible apply And.intro)|((first|(refine hK _ ?_;clear hK K)|with_reducible intro K hK|refine Rs.p ?_|((with_reducible first|apply oP|apply oQ);exact rfl)|refine aa hX hC hP (hM) rfl rfl rfl (by simp only [go_sem,simprocAttr,vI_length,ak,j3]) rfl ?_);try simp only [go_sem,simprocAttr,vI_length,ak,j3])|((with_reducible refine oD ?_ ?_);kernel_rfl)|((with_reducible intro h);try simp only [go_sem,simprocAttr,vI_length,ak,j3] at h)|omega|intro h)
  refine ag (fun i:Nat=>i≤l.length) (fun i=>⟨[(1, .d (.sl 1 (vI r))),(2, .ptr 2 0),(5, .ref 24),(6,eN k),(7,eN i)], [(2, .box [eN g.n, .d (sE g.es)]),(24, .own 3 1 ((mD g r M k i).map rI))]⟩) (fun i=>l.length - i) 0 (by omega) ?_ ?_
  ·refine Le.of ?_ ?_<;>simp [go_sem,simprocAttr]
  rintro i hi
  rcases Nat.lt_or_ge i l.length with hil|Kh
  ·have an:decide ((i:Int)<(l.length:Int))=true:=decide_eq_true (by omega)
   have hq:=(hme _).1 (aV (d:=0) hil)
   obtain ⟨z,hz⟩:∃z:Nat,l.getD i 0=(z:Int):=⟨(l.getD i 0).toNat,by omega⟩
   rw [hz] at hq
   have Iq:z<M:=by omega
   have IY:=Gi z (by omega) (by omega)
   rw [hq.2] at IY
   obtain ⟨s1,s2⟩:=hst i z hil hz Iq hq.2
   have bH:decide ((z:Int)<0)=false:=decide_eq_false (by omega)
   have hb4:decide ((M:Int)≤(z:Int))=false:=decide_eq_false (by omega)
   have pZ:=gh k i
   generalize Lk:mD g r M k (i+1)=C2 at s2
   generalize mD g r M k i=C1 at s1 s2 pZ ⊢
   repeat' (first|refine Rn.p ?_|(with_reducible apply And.intro)|((first|(refine hK _ ?_;clear hK K)|with_reducible intro K hK|refine Rs.p ?_|((with_reducible first|apply oP|apply oQ);exact rfl)|refine aa hX hC hP (IY) rfl rfl rfl (by simp only [go_sem,simprocAttr,vI_length,ak,an,j3,hz,bH,hb4,pZ,s1,List.length_map,decide_true,decide_false]) rfl ?_);try simp only [go_sem,simprocAttr,vI_length,ak,an,j3,hz,bH,hb4,pZ,s1,List.length_map,decide_true,decide_false])|((with_reducible refine oD ?_ ?_);kernel_rfl)|((with_reducible intro h);try simp only [go_sem,simprocAttr,vI_length,ak,an,j3,hz,bH,hb4,pZ,s1,List.length_map,decide_true,decide_false] at h)|omega|intro h)
   refine ⟨i+1,by omega, ?_,by omega⟩
   rw [Lk, ← s2]
   refine Le.of ?_ ?_<;>simp [go_sem,simprocAttr,vI_length,ak,an,j3,hz,bH,hb4,pZ,s1,List.length_map,decide_true,decide_false,rI]
  ·have an:decide ((i:Int)<(l.length:Int))=false:=decide_eq_false (by omega)
   obtain rfl:i=l.length:=by omega
   rw [Ra]
   repeat' (first|refine Rn.p ?_|(with_reducible apply And.intro)|((first|(refine hK _ ?_;clear hK K)|with_reducible intro K hK|refine Rs.p ?_|((with_reducible first|apply oP|apply oQ);exact rfl)|refine aa hX hC hP (IY) rfl rfl rfl (by simp only [go_sem,simprocAttr,vI_length,ak,an,j3]) rfl ?_);try simp only [go_sem,simprocAttr,vI_length,ak,an,j3])|((with_reducible refine oD ?_ ?_);kernel_rfl)|((with_reducible intro h);try simp only [go_sem,simprocAttr,vI_length,ak,an,j3] at h)|omega|intro h)
   refine ⟨k+1,by omega, ?_,by omega⟩
   refine Le.of ?_ ?_<;>simp [go_sem,simprocAttr,vI_length,ak,an,j3]
 ·have ak:decide ((k:Int)<(r.length:Int))=false:=decide_eq_false (by omega)
  obtain rfl:k=r.length:=by omega
  have hca:=fun h hh=>Ez hm hr (M:=M) (h:=h) hM1 hh
  have pZ:=gh r.length 0
  rw [← Hu] at hca
  generalize mD g r M r.length 0=C1 at*
  repeat' (first|refine Rn.p ?_|(with_reducible apply And.intro)|((first|(refine hK _ ?_;clear hK K)|with_reducible intro K hK|refine Rs.p ?_|((with_reducible first|apply oP|apply oQ);exact rfl)|refine aa hX hC hP (IY) rfl rfl rfl (by simp only [go_sem,simprocAttr,vI_length,ak]) rfl ?_);try simp only [go_sem,simprocAttr,vI_length,ak])|((with_reducible refine oD ?_ ?_);kernel_rfl)|((with_reducible intro h);try simp only [go_sem,simprocAttr,vI_length,ak] at h)|omega|intro h)
  refine ag (fun i:Nat=>i≤M) (fun i=>⟨[(5, .ref 24),(9,eN i)], [(24, .own 3 1 (C1.map rI))]⟩) (fun i=>M - i) 0 (by omega) ?_ ?_
  ·refine Le.of ?_ ?_<;>simp [go_sem,simprocAttr]
  rintro i hi
  rcases Nat.lt_or_ge i M with hil|Kh
  ·have an:decide ((i:Int)<(M:Int))=true:=decide_eq_true (by omega)
   have Gm:=hca i hil
   repeat' (first|refine Rn.p ?_|(with_reducible apply And.intro)|((first|(refine hK _ ?_;clear hK K)|with_reducible intro K hK|refine Rs.p ?_|((with_reducible first|apply oP|apply oQ);exact rfl)|refine aa hX hC hP (IY) rfl rfl rfl (by simp only [go_sem,simprocAttr,an,pZ,Gm,List.length_map]) rfl ?_);try simp only [go_sem,simprocAttr,an,pZ,Gm,List.length_map])|((with_reducible refine oD ?_ ?_);kernel_rfl)|((with_reducible intro h);try simp only [go_sem,simprocAttr,an,pZ,Gm,List.length_map] at h)|omega|intro h)
   refine ⟨i+1,by omega, ?_,by omega⟩
   refine Le.of ?_ ?_<;>simp [go_sem,simprocAttr,an,pZ,Gm,List.length_map]
  ·have an:decide ((i:Int)<(M:Int))=false:=decide_eq_false (by omega)
   repeat' (first|refine Rn.p ?_|(with_reducible apply And.intro)|((first|(refine hK _ ?_;clear hK K)|with_reducible intro K hK|refine Rs.p ?_|((with_reducible first|apply oP|apply oQ);exact rfl)|refine aa hX hC hP (IY) rfl rfl rfl (by simp only [go_sem,simprocAttr,an,pZ,List.length_map]) rfl ?_);try simp only [go_sem,simprocAttr,an,pZ,List.length_map])|((with_reducible refine oD ?_ ?_);kernel_rfl)|((with_reducible intro h);try simp only [go_sem,simprocAttr,an,pZ,List.length_map] at h)|omega|intro h)
end Go.Ab
end
