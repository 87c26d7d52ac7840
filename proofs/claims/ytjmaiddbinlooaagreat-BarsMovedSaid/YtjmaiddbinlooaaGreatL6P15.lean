/- A part of the proof. -/
import Derived.Test.YtjmaiddbinlooaaGreatL6P14
set_option linter.unusedSimpArgs false
set_option linter.unusedVariables false
section
namespace Go.Ab
open Go.Proofs
attribute [local congr] ACall.congr
set_option maxRecDepth 10000
set_option maxHeartbeats 8000000
def jo (A o:List Int) (f:Nat→Int):Nat→List Int
 |0=>A
 |j+1=>(jo A o f j).set (o.getD j 0).toNat (f j)
theorem fG {A o:List Int} {f:Nat→Int} :∀ {j:Nat},(jo A o f j).length=A.length
 |0=>rfl
 |j+1=>by rw [jo,List.length_set,fG]
def lF (A o:List Int) (left:Int) (c:Nat) (j:Nat):List Int:=jo A o (fun j=>if j=0 then left else (c:Int)+j - 1) j
def lG (A o:List Int) (right:Int) (c:Nat) (j:Nat):List Int:=jo A o (fun j=>if j+1<o.length then (c:Int)+j else right) j
theorem Ak {A o:List Int} {left:Int} {c:Nat} {j:Nat} :(lF A o left c j).length=A.length:=fG
theorem Al {A o:List Int} {left:Int} {c:Nat} {j:Nat} :(lG A o left c j).length=A.length:=fG
theorem tF {A o:List Int} {f:Nat→Int} {e:Nat} :∀ {j:Nat},(∀i,i<j→(o.getD i 0).toNat≠e)→(jo A o f j).getD e 0=A.getD e 0
 |0,_=>rfl
 |j+1,h=>by
  have h1:=h j (by omega)
  rw [jo,List.getD_eq_getElem?_getD,List.getElem?_set,if_neg h1, ← List.getD_eq_getElem?_getD,tF fun i hi=>h i (by omega)]
theorem wR {A o:List Int} {f:Nat→Int} {i:Nat} (hA:(o.getD i 0).toNat<A.length):∀ {j:Nat},i<j→(∀k,k<j→(o.getD k 0).toNat=(o.getD i 0).toNat→k=i)→(jo A o f j).getD (o.getD i 0).toNat 0=f i
 |0,h,_=>by omega
 |j+1,h,hn=>by
  rw [jo,List.getD_eq_getElem?_getD,List.getElem?_set]
  by_cases e:(o.getD j 0).toNat=(o.getD i 0).toNat
  ·have:=hn j (by omega) e
   subst this
   rw [if_pos rfl,if_pos (by rw [fG];exact hA)];rfl
  ·have hji:j≠i:=fun e2=>e (by rw [e2])
   rw [if_neg e, ← List.getD_eq_getElem?_getD,wR hA (by omega) fun k hk=>hn k (by omega)]
def eD (c k:Nat):List Int:=(List.range k).map fun i:Nat=>((c+i:Nat):Int)
theorem xY {c k:Nat} :eD c (k+1)=eD c k++ [((c+k:Nat):Int)]:=by simp [eD,List.range_succ]
theorem jq {c k:Nat} :(eD c k).length=k:=by simp [eD]
def DU (left:Int) (c d j:Nat):Int:=if min j (d - 1)=0 then left else (c:Int)+(min j (d - 1):Nat) - 1
def Gd (ed gp:D) (A B lo hi:List Int):List (Nat × AObj):= [(10000, .box [.d ed, .d gp, .ref 10001, .ref 10002, .ref 10003, .ref 10004]),(10001, .own 3 1 (A.map rI)),(10002, .own 3 1 (B.map rI)),(10003, .tip 3 1 (lo.map rI)),(10004, .own 3 1 (hi.map rI))]
def Ge (ed gp:D) (A B lo hi:List Int):List (Nat × AObj):= [(10000, .box [.d ed, .d gp, .ref 10001, .ref 10002, .ref 10005, .ref 10006]),(10001, .own 3 1 (A.map rI)),(10002, .own 3 1 (B.map rI)),(10005, .tip 3 1 (lo.map rI)),(10006, .own 3 1 (hi.map rI))]
theorem tG (x left right:Int) (o:List Int) (ed gp:D) (A B lo hi:List Int) (ho:o.length≤100000) (hO:∀i∈o,0≤i∧i<A.length) (hB:B.length=A.length) (hlo:lo.length≤100000) (hhi:hi.length≤100000):
 Spec Tryz.prog 52 (Args [.ptr 10000 0,eN x, .d (sI o),eN left,eN right]) (Gd ed gp A B lo hi)
  (.d (sI (eD lo.length (o.length - 1)))) (Ge ed gp (lF A o left lo.length o.length) (lG B o right lo.length o.length) (lo++List.replicate (o.length - 1) x) (hi++List.replicate (o.length - 1) 0)):=by
 unfold Gd Ge
 generalize hc:lo.length=c at*
 (refine Spec.eL (C:=T.cfg [] []) (rs:= [.t 10]) [(10005,200),(10006,201)] (T.ak _ _) Tryz.func52 rfl rfl Tryz.ntmps52 Tryz.results52 (by simp [AObj.isNest]) (by simp [AObj.isNest]) (by first|(simp [look];done)|(simp [asN];done)|(intro l hl;simp only [asN];repeat (rw [if_neg (fun e=>by subst e;simp [look] at hl)]))) (by first|(simp [look];done)|(simp [asN];done)|(intro l hl;simp only [asN];repeat (rw [if_neg (fun e=>by subst e;simp [look] at hl)]))) (by kernel_rfl) ?_;intro X hX hP hC aK aL vals hA;refine ⟨_,by simp,hA, ?_⟩;have af:X.P.follows .mixedOrders=true:=(by rw [hP];exact T.mixed);clear aK aL)
 repeat' (first|fail|((first|((with_reducible (first|apply oA|apply oB));exact rfl;intro K hK)|(refine hK _ ?_;clear hK K)|((with_reducible (first|apply oG|apply oH));iterate 3 exact rfl)|((with_reducible apply oI);(iterate 2 exact rfl);intro K hK)|(with_reducible (first|apply wI|apply wJ|apply wK)));try simp only [go_sem,simprocAttr])|(show cV _ (.seq (.region 1 _ _) _) _ _;(refine jA hX 10 202 (.tip 3 1 []) (by simp only [go_sem,simprocAttr]) (by simp only [go_sem,simprocAttr]) (by decide) ⟨3,1,by decide, .inr rfl⟩ ?_;simp only [go_sem,simprocAttr]);(refine bU hX 10000 4 10003 200 rfl rfl rfl (by first|exact .inl rfl|exact .inr rfl) (by decide) (by decide) ?_;simp only [LA.app,ASt.put,ASt.kill,subT,rmk,putM,rml,kl,AV.sub,AV.subs,AObj.sub,List.set_cons_zero,List.set_cons_succ,go_sem,simprocAttr]);(refine bU hX 10000 5 10004 201 rfl rfl rfl (by first|exact .inl rfl|exact .inr rfl) (by decide) (by decide) ?_;simp only [LA.app,ASt.put,ASt.kill,subT,rmk,putM,rml,kl,AV.sub,AV.subs,AObj.sub,List.set_cons_zero,List.set_cons_succ,go_sem,simprocAttr]))|(with_reducible (first|apply oC|apply oJ|exact oK|apply wA|apply wB|apply wC hX hC|apply wD hX hC|apply wE hX hC af|apply wF hX hC af|apply wG|apply wH|apply And.intro))|((with_reducible refine oD ?_ ?_);first|fail|kernel_rfl)|((with_reducible (first|apply oE|apply oF));(iterate 3 exact rfl);all_goals (intro h;first|(exact absurd h (by decide))|((try simp only [go_sem,simprocAttr] at h);(try with_reducible intro K hK);simp only [go_sem,simprocAttr])))|((first|((with_reducible apply wL);exact rfl)|((with_reducible apply wM);exact rfl));all_goals (try ((with_reducible intro h);first|(exact absurd h (by decide))|(try simp only [go_sem,simprocAttr] at h))))|omega|((first|fail);try simp only [go_sem,simprocAttr])|(intro h))
 refine aj (fun j:Nat=>j≤o.length) (fun j=>⟨[(0, .ptr 10000 0),(1,eN x),(2, .d (sI o)),(3,eN (DU left c o.length j)),(4,eN right),(10, .ref 202),(13, .d (sI o)),(14,eN o.length),(15,eN j)], [(10000, .box [.d ed, .d gp, .ref 10001, .ref 10002, .ref 200, .ref 201]),(10001, .own 3 1 ((lF A o left c j).map rI)),(10002, .own 3 1 ((lG B o right c j).map rI)),(200, .tip 3 1 ((lo++List.replicate (min j (o.length - 1)) x).map rI)),(201, .own 3 1 ((hi++List.replicate (min j (o.length - 1)) 0).map rI)),(202, .tip 3 1 ((eD c (min j (o.length - 1))).map rI))]⟩) (fun j=>o.length - j) 0 (by omega) ?_ ?_
 ·refine Le.of ?_ ?_<;>simp [go_sem,simprocAttr,DU,lF,lG,jo,eD]
 rintro j hj
 rcases Nat.lt_or_ge j o.length with hjl|F4
 rotate_left
 ·have hb:decide ((j:Int)<(o.length:Int))=false:=decide_eq_false (by omega)
  obtain rfl:j=o.length:=by omega
  have hmin:min o.length (o.length - 1)=o.length - 1:=by omega
  rw [hmin]
  repeat' (first|fail|((first|((with_reducible (first|apply oA|apply oB));exact rfl;intro K hK)|(refine hK _ ?_;clear hK K)|((with_reducible (first|apply oG|apply oH));iterate 3 exact rfl)|((with_reducible apply oI);(iterate 2 exact rfl);intro K hK)|(with_reducible (first|apply wI|apply wJ|apply wK)));try simp only [go_sem,simprocAttr,hb])|fail|(with_reducible (first|apply oC|apply oJ|exact oK|apply wA|apply wB|apply wC hX hC|apply wD hX hC|apply wE hX hC af|apply wF hX hC af|apply wG|apply wH|apply And.intro))|((with_reducible refine oD ?_ ?_);first|fail|kernel_rfl)|((with_reducible (first|apply oE|apply oF));(iterate 3 exact rfl);all_goals (intro h;first|(exact absurd h (by decide))|((try simp only [go_sem,simprocAttr,hb] at h);(try with_reducible intro K hK);simp only [go_sem,simprocAttr,hb])))|((first|((with_reducible apply wL);exact rfl)|((with_reducible apply wM);exact rfl));all_goals (try ((with_reducible intro h);first|(exact absurd h (by decide))|(try simp only [go_sem,simprocAttr,hb] at h))))|omega|((first|fail);try simp only [go_sem,simprocAttr,hb])|(intro h))
 have hb:decide ((j:Int)<(o.length:Int))=true:=decide_eq_true (by omega)
 have hin:=hO _ (aY (d:=0) hjl)
 have mW:=Ak (A:=A) (o:=o) (left:=left) (c:=c) (j:=j)
 have iM:=Al (A:=B) (o:=o) (left:=right) (c:=c) (j:=j)
 have FE:lF A o left c (j+1)=(lF A o left c j).set (o.getD j 0).toNat (if j=0 then left else (c:Int)+j - 1):=rfl
 have Eu:lG B o right c (j+1)=(lG B o right c j).set (o.getD j 0).toNat (if j+1<o.length then (c:Int)+j else right):=rfl
 have uZ:min j (o.length - 1)=j:=by omega
 have hlf:DU left c o.length j=if j=0 then left else (c:Int)+j - 1:=by unfold DU;rw [uZ]
 rw [uZ,hlf]
 generalize r6:o.getD j 0=v at hin FE Eu
 obtain ⟨i,rfl⟩:∃i:Nat,v=i:=⟨v.toNat,by omega⟩
 rw [Int.toNat_natCast] at FE Eu
 generalize (if j=0 then left else (c:Int)+j - 1)=lv at FE hlf ⊢
 by_cases hj2:j+1<o.length
 ·have an:decide ((j:Int)+1<(o.length:Int))=true:=decide_eq_true (by omega)
  have hm2:min (j+1) (o.length - 1)=j+1:=by omega
  rw [if_pos hj2] at Eu
  have FF:DU left c o.length (j+1)=((c+j:Nat):Int):=by unfold DU;rw [hm2,if_neg (by omega)];omega
  have lB:(lo++List.replicate j x).length=c+j:=by rw [List.length_append,List.length_replicate,hc]
  have r7:(hi++List.replicate j (0:Int)).length=hi.length+j:=by rw [List.length_append,List.length_replicate]
  have Jm:lo++List.replicate (j+1) x=(lo++List.replicate j x)++ [x]:=by rw [List.replicate_succ', ← List.append_assoc]
  have Jn:hi++List.replicate (j+1) (0:Int)=(hi++List.replicate j 0)++ [0]:=by rw [List.replicate_succ', ← List.append_assoc]
  have qk:=jq (c:=c) (k:=j)
  have Dw:=xY (c:=c) (k:=j)
  generalize lo++List.replicate j x=P5 at lB Jm
  generalize hi++List.replicate j (0:Int)=hi1 at r7 Jn
  generalize eD c j=gs at qk Dw
  generalize lF A o left c j=A1 at mW FE
  generalize lG B o right c j=B1 at iM Eu
  repeat' (first|fail|((first|((with_reducible (first|apply oA|apply oB));exact rfl;intro K hK)|(refine hK _ ?_;clear hK K)|((with_reducible (first|apply oG|apply oH));iterate 3 exact rfl)|((with_reducible apply oI);(iterate 2 exact rfl);intro K hK)|(with_reducible (first|apply wI|apply wJ|apply wK)));try simp only [go_sem,simprocAttr,hb,an,r6,mW,iM,lB,r7,qk])|(show cV _ (.seq (.region 8 _ _) _) _ _;(refine bU hX 10000 4 48 200 rfl rfl rfl (by first|exact .inl rfl|exact .inr rfl) (by decide) (by decide) ?_;simp only [LA.app,ASt.put,ASt.kill,subT,rmk,putM,rml,kl,AV.sub,AV.subs,AObj.sub,List.set_cons_zero,List.set_cons_succ,go_sem,simprocAttr,hb,an,r6,mW,iM,lB,r7,qk]);(refine bU hX 10000 5 55 201 rfl rfl rfl (by first|exact .inl rfl|exact .inr rfl) (by decide) (by decide) ?_;simp only [LA.app,ASt.put,ASt.kill,subT,rmk,putM,rml,kl,AV.sub,AV.subs,AObj.sub,List.set_cons_zero,List.set_cons_succ,go_sem,simprocAttr,hb,an,r6,mW,iM,lB,r7,qk]))|(show cV _ (.region 9 _ _) _ _;(refine qL hX 10 65 202 (by simp only [go_sem,simprocAttr,hb,an,r6,mW,iM,lB,r7,qk]) rfl (by first|exact .inl rfl|exact .inr rfl) (by decide) ?_;simp only [go_sem,simprocAttr,hb,an,r6,mW,iM,lB,r7,qk]))|(with_reducible (first|apply oC|apply oJ|exact oK|apply wA|apply wB|apply wC hX hC|apply wD hX hC|apply wE hX hC af|apply wF hX hC af|apply wG|apply wH|apply And.intro))|((with_reducible refine oD ?_ ?_);first|fail|kernel_rfl)|((with_reducible (first|apply oE|apply oF));(iterate 3 exact rfl);all_goals (intro h;first|(exact absurd h (by decide))|((try simp only [go_sem,simprocAttr,hb,an,r6,mW,iM,lB,r7,qk] at h);(try with_reducible intro K hK);simp only [go_sem,simprocAttr,hb,an,r6,mW,iM,lB,r7,qk])))|((first|((with_reducible apply wL);exact rfl)|((with_reducible apply wM);exact rfl));all_goals (try ((with_reducible intro h);first|(exact absurd h (by decide))|(try simp only [go_sem,simprocAttr,hb,an,r6,mW,iM,lB,r7,qk] at h))))|omega|((first|fail);try simp only [go_sem,simprocAttr,hb,an,r6,mW,iM,lB,r7,qk])|(intro h))
  refine ⟨j+1,by omega, ?_,by omega⟩
  rw [FE,Eu,hm2,Jm,Jn,Dw,FF]
  refine Le.of ?_ ?_<;>simp [go_sem,simprocAttr,hb,an,r6,mW,iM,lB,r7,qk,rI]
 ·have an:decide ((j:Int)+1<(o.length:Int))=false:=decide_eq_false (by omega)
  have hm2:min (j+1) (o.length - 1)=j:=by omega
  have FF:DU left c o.length (j+1)=DU left c o.length j:=by unfold DU;rw [hm2,uZ]
  rw [if_neg hj2] at Eu
  generalize lF A o left c j=A1 at mW FE
  generalize lG B o right c j=B1 at iM Eu
  repeat' (first|fail|((first|((with_reducible (first|apply oA|apply oB));exact rfl;intro K hK)|(refine hK _ ?_;clear hK K)|((with_reducible (first|apply oG|apply oH));iterate 3 exact rfl)|((with_reducible apply oI);(iterate 2 exact rfl);intro K hK)|(with_reducible (first|apply wI|apply wJ|apply wK)));try simp only [go_sem,simprocAttr,hb,an,r6,mW,iM])|fail|(with_reducible (first|apply oC|apply oJ|exact oK|apply wA|apply wB|apply wC hX hC|apply wD hX hC|apply wE hX hC af|apply wF hX hC af|apply wG|apply wH|apply And.intro))|((with_reducible refine oD ?_ ?_);first|fail|kernel_rfl)|((with_reducible (first|apply oE|apply oF));(iterate 3 exact rfl);all_goals (intro h;first|(exact absurd h (by decide))|((try simp only [go_sem,simprocAttr,hb,an,r6,mW,iM] at h);(try with_reducible intro K hK);simp only [go_sem,simprocAttr,hb,an,r6,mW,iM])))|((first|((with_reducible apply wL);exact rfl)|((with_reducible apply wM);exact rfl));all_goals (try ((with_reducible intro h);first|(exact absurd h (by decide))|(try simp only [go_sem,simprocAttr,hb,an,r6,mW,iM] at h))))|omega|((first|fail);try simp only [go_sem,simprocAttr,hb,an,r6,mW,iM])|(intro h))
  refine ⟨j+1,by omega, ?_,by omega⟩
  rw [FE,Eu,hm2,FF,hlf]
  refine Le.of ?_ ?_<;>simp [go_sem,simprocAttr,hb,an,r6,mW,iM,rI]
end Go.Ab
end
section
namespace Go.Ab
open Go.Proofs
attribute [local congr] ACall.congr
set_option maxRecDepth 10000
set_option maxHeartbeats 8000000
def kG (A fs:List Int) (x:Int) (j:Nat):List Int:=jo A fs (fun _=>x) j
theorem ow {A fs:List Int} {x:Int} {j:Nat} :(kG A fs x j).length=A.length:=fG
theorem iH (l items:List Int) (a b:Nat) (h0:0<(l.take a++items++l.drop b).length) (hr:l.length≤400000) (hi:items.length≤100000):Spec Tryz.prog 54 (Args [.d (.sl 1 [[.sl 1 (List.take a (l.map rI))], [.sl 1 (items.map rI)], [.sl 1 (List.drop b (l.map rI))]])]) [] (.d (sI (l.take a++items++l.drop b))) []:=by
 have hf: [l.take a,items,l.drop b].flatten=l.take a++items++l.drop b:=by simp
 have:=dy [l.take a,items,l.drop b] (by simp) (by rw [hf];exact h0) (by rw [hf];simp;omega)
 rw [hf] at this
 simpa only [vL,List.map_cons,List.map_nil,sI,List.map_take,List.map_drop] using this
theorem uU (x:Int) (o W G A B lo hi:List Int) (a b:Nat) (hab:a<b) (P6:b<G.length) (P7:b≤W.length) (hG:G.length≤100000) (hW:W.length≤100000) (hf:∀f∈(G.take b).drop (a+1),0≤f∧f<hi.length)
 (ho:o.length≤100000) (hO:∀i∈o,0≤i∧i<A.length) (hB:B.length=A.length) (hlo:lo.length≤100000) (hhi:hi.length≤100000):
 Spec Tryz.prog 56 (Args [.ptr 10000 0,eN x, .d (sI o),eN a,eN b]) (Gd (sI W) (sI G) A B lo hi) (.tup [])
  (Ge (sI (if o= [] then W else W.take a++o++W.drop b)) (sI (G.take (a+1)++eD lo.length (o.length - 1)++G.drop b)) (lF A o (G.getD a 0) lo.length o.length) (lG B o (G.getD b 0) lo.length o.length) (lo++List.replicate (o.length - 1) x) (kG hi ((G.take b).drop (a+1)) x ((G.take b).drop (a+1)).length++List.replicate (o.length - 1) 0)):=by
 have tO:List.drop (a+1) (List.take b (List.map rI G))=((G.take b).drop (a+1)).map rI:=by rw [List.map_drop,List.map_take]
 have hfl:((G.take b).drop (a+1)).length≤100000:=by simp;omega
 generalize (G.take b).drop (a+1)=fs at tO hf hfl ⊢
 have sk:List.take G.length (List.map rI G)=List.map rI G:=List.take_of_length_le (by simp)
 have oa:List.take W.length (List.map rI W)=List.map rI W:=List.take_of_length_le (by simp)
 have hmn:min ((a:Int)+1) (b:Int)=((a+1:Nat):Int):=by omega
 have Cr:=tG x (G.getD a 0) (G.getD b 0) o (sI W) (sI G) A B lo (kG hi fs x fs.length) ho hO hB hlo (by rw [ow];exact hhi)
 have Mp:=iH G (eD lo.length (o.length - 1)) (a+1) b (by simp;omega) (by omega) (by rw [jq];omega)
 have Nm:=fun (h:o≠ [])=>iH W o a b (by have:=List.length_pos_iff.2 h;simp;omega) (by omega) (by omega)
 generalize hg:eD lo.length (o.length - 1)=gs at Cr Mp
 unfold Gd Ge at Cr ⊢
 (refine Spec.eL (C:=T.cfg [] []) (rs:= []) [(10005,300),(10006,301)] (T.ak _ _) Tryz.func56 rfl rfl Tryz.ntmps56 Tryz.results56 (by simp [AObj.isNest]) (by simp [AObj.isNest]) (by first|(simp [look];done)|(simp [asN];done)|(intro l hl;simp only [asN];repeat (rw [if_neg (fun e=>by subst e;simp [look] at hl)]))) (by first|(simp [look];done)|(simp [asN];done)|(intro l hl;simp only [asN];repeat (rw [if_neg (fun e=>by subst e;simp [look] at hl)]))) (by kernel_rfl) ?_;intro X hX hP hC aK aL vals hA;refine ⟨_,by simp,hA, ?_⟩;have af:X.P.follows .mixedOrders=true:=(by rw [hP];exact T.mixed);clear aK aL)
 repeat' (first|fail|((first|((with_reducible (first|apply oA|apply oB));exact rfl;intro K hK)|(refine hK _ ?_;clear hK K)|((with_reducible (first|apply oG|apply oH));iterate 3 exact rfl)|((with_reducible apply oI);(iterate 2 exact rfl);intro K hK)|(with_reducible (first|apply wI|apply wJ|apply wK)));try simp only [go_sem,simprocAttr,hmn,tO])|fail|(with_reducible (first|apply oC|apply oJ|exact oK|apply wA|apply wB|apply wC hX hC|apply wD hX hC|apply wE hX hC af|apply wF hX hC af|apply wG|apply wH|apply And.intro))|((with_reducible refine oD ?_ ?_);first|fail|kernel_rfl)|((with_reducible (first|apply oE|apply oF));(iterate 3 exact rfl);all_goals (intro h;first|(exact absurd h (by decide))|((try simp only [go_sem,simprocAttr,hmn,tO] at h);(try with_reducible intro K hK);simp only [go_sem,simprocAttr,hmn,tO])))|((first|((with_reducible apply wL);exact rfl)|((with_reducible apply wM);exact rfl));all_goals (try ((with_reducible intro h);first|(exact absurd h (by decide))|(try simp only [go_sem,simprocAttr,hmn,tO] at h))))|omega|((first|fail);try simp only [go_sem,simprocAttr,hmn,tO])|(intro h))
 refine aj (fun j:Nat=>j≤fs.length) (fun j=>⟨[(0, .ptr 10000 0),(1,eN x),(2, .d (sI o)),(3,eN a),(4,eN b),(24, .d (sI fs)),(25,eN fs.length),(26,eN j)], [(10000, .box [.d (sI W), .d (sI G), .ref 10001, .ref 10002, .ref 10003, .ref 10004]),(10001, .own 3 1 (A.map rI)),(10002, .own 3 1 (B.map rI)),(10003, .tip 3 1 (lo.map rI)),(10004, .own 3 1 ((kG hi fs x j).map rI))]⟩) (fun j=>fs.length - j) 0 (by omega) ?_ ?_
 ·refine Le.of ?_ ?_<;>simp [go_sem,simprocAttr,kG,jo]
 rintro j hj
 rcases Nat.lt_or_ge j fs.length with hjl|F4
 ·have hb:decide ((j:Int)<(fs.length:Int))=true:=decide_eq_true (by omega)
  have hin:=hf _ (aY (d:=0) hjl)
  have r7:=ow (A:=hi) (fs:=fs) (x:=x) (j:=j)
  have JZ:kG hi fs x (j+1)=(kG hi fs x j).set (fs.getD j 0).toNat x:=rfl
  generalize r6:fs.getD j 0=v at hin JZ
  obtain ⟨i,rfl⟩:∃i:Nat,v=i:=⟨v.toNat,by omega⟩
  rw [Int.toNat_natCast] at JZ
  generalize kG hi fs x j=H1 at r7 JZ
  repeat' (first|fail|((first|((with_reducible (first|apply oA|apply oB));exact rfl;intro K hK)|(refine hK _ ?_;clear hK K)|((with_reducible (first|apply oG|apply oH));iterate 3 exact rfl)|((with_reducible apply oI);(iterate 2 exact rfl);intro K hK)|(with_reducible (first|apply wI|apply wJ|apply wK)));try simp only [go_sem,simprocAttr,hb,r6,r7])|fail|(with_reducible (first|apply oC|apply oJ|exact oK|apply wA|apply wB|apply wC hX hC|apply wD hX hC|apply wE hX hC af|apply wF hX hC af|apply wG|apply wH|apply And.intro))|((with_reducible refine oD ?_ ?_);first|fail|kernel_rfl)|((with_reducible (first|apply oE|apply oF));(iterate 3 exact rfl);all_goals (intro h;first|(exact absurd h (by decide))|((try simp only [go_sem,simprocAttr,hb,r6,r7] at h);(try with_reducible intro K hK);simp only [go_sem,simprocAttr,hb,r6,r7])))|((first|((with_reducible apply wL);exact rfl)|((with_reducible apply wM);exact rfl));all_goals (try ((with_reducible intro h);first|(exact absurd h (by decide))|(try simp only [go_sem,simprocAttr,hb,r6,r7] at h))))|omega|((first|fail);try simp only [go_sem,simprocAttr,hb,r6,r7])|(intro h))
  refine ⟨j+1,by omega, ?_,by omega⟩
  rw [JZ]
  refine Le.of ?_ ?_<;>simp [go_sem,simprocAttr,hb,r6,r7,rI]
 have hb:decide ((j:Int)<(fs.length:Int))=false:=decide_eq_false (by omega)
 obtain rfl:j=fs.length:=by omega
 have pU:((a:Int)+1).toNat=a+1:=by omega
 by_cases hne:o= []
 ·have an:decide ((o.length:Int)=0)=true:=decide_eq_true (by rw [hne];rfl)
  repeat' (first|fail|((first|((with_reducible (first|apply oA|apply oB));exact rfl;intro K hK)|(refine hK _ ?_;clear hK K)|((with_reducible (first|apply oG|apply oH));iterate 3 exact rfl)|((with_reducible apply oI);(iterate 2 exact rfl);intro K hK)|(with_reducible (first|apply wI|apply wJ|apply wK)));try simp only [go_sem,simprocAttr,hb,an,if_pos hne,pU,sk,oa])|fail|(with_reducible (first|apply oC|apply oJ|exact oK|apply wA|apply wB|apply wC hX hC|apply wD hX hC|apply wE hX hC af|apply wF hX hC af|apply wG|apply wH|apply And.intro))|((with_reducible refine oD ?_ ?_);first|fail|kernel_rfl)|((with_reducible (first|apply oE|apply oF));(iterate 3 exact rfl);all_goals (intro h;first|(exact absurd h (by decide))|((try simp only [go_sem,simprocAttr,hb,an,if_pos hne,pU,sk,oa] at h);(try with_reducible intro K hK);simp only [go_sem,simprocAttr,hb,an,if_pos hne,pU,sk,oa])))|((first|((with_reducible apply wL);exact rfl)|((with_reducible apply wM);exact rfl));all_goals (try ((with_reducible intro h);first|(exact absurd h (by decide))|(try simp only [go_sem,simprocAttr,hb,an,if_pos hne,pU,sk,oa] at h))))|omega|((first|first|(refine az hX hC hP [(10000,10000),(10001,10001),(10002,10002),(10003,10003),(10004,10004),(10005,300),(10006,301)] (Cr) rfl rfl rfl ?_ ?_ ?_ ?_ ?_ ?_ ?_ ?_ ?_ ?_ ?_ ?_ ?_ ?_;(focus (simp only [go_sem,simprocAttr,hb,an,if_pos hne,pU,sk,oa];done));(iterate 12 (focus (simp [go_sem,simprocAttr,hb,an,if_pos hne,pU,sk,oa];done)));simp only [go_sem,simprocAttr,hb,an,if_pos hne,pU,sk,oa,List.map_cons,List.map_nil])|(refine aS hX hC hP (Mp) rfl rfl rfl ?_ ?_ rfl ?_;iterate 2 (focus (simp only [go_sem,simprocAttr,hb,an,if_pos hne,pU,sk,oa];done)))|(refine aS hX hC hP (Nm hne) rfl rfl rfl ?_ ?_ rfl ?_;iterate 2 (focus (simp only [go_sem,simprocAttr,hb,an,if_pos hne,pU,sk,oa];done))));try simp only [go_sem,simprocAttr,hb,an,if_pos hne,pU,sk,oa])|(intro h))
  all_goals (first|rfl|(simp only [go_sem,simprocAttr,hb,an,if_pos hne,pU,sk,oa];done))
 ·have an:decide ((o.length:Int)=0)=false:=decide_eq_false (by have:=List.length_pos_iff.2 hne;omega)
  repeat' (first|fail|((first|((with_reducible (first|apply oA|apply oB));exact rfl;intro K hK)|(refine hK _ ?_;clear hK K)|((with_reducible (first|apply oG|apply oH));iterate 3 exact rfl)|((with_reducible apply oI);(iterate 2 exact rfl);intro K hK)|(with_reducible (first|apply wI|apply wJ|apply wK)));try simp only [go_sem,simprocAttr,hb,an,if_neg hne,pU,sk,oa])|fail|(with_reducible (first|apply oC|apply oJ|exact oK|apply wA|apply wB|apply wC hX hC|apply wD hX hC|apply wE hX hC af|apply wF hX hC af|apply wG|apply wH|apply And.intro))|((with_reducible refine oD ?_ ?_);first|fail|kernel_rfl)|((with_reducible (first|apply oE|apply oF));(iterate 3 exact rfl);all_goals (intro h;first|(exact absurd h (by decide))|((try simp only [go_sem,simprocAttr,hb,an,if_neg hne,pU,sk,oa] at h);(try with_reducible intro K hK);simp only [go_sem,simprocAttr,hb,an,if_neg hne,pU,sk,oa])))|((first|((with_reducible apply wL);exact rfl)|((with_reducible apply wM);exact rfl));all_goals (try ((with_reducible intro h);first|(exact absurd h (by decide))|(try simp only [go_sem,simprocAttr,hb,an,if_neg hne,pU,sk,oa] at h))))|omega|((first|first|(refine az hX hC hP [(10000,10000),(10001,10001),(10002,10002),(10003,10003),(10004,10004),(10005,300),(10006,301)] (Cr) rfl rfl rfl ?_ ?_ ?_ ?_ ?_ ?_ ?_ ?_ ?_ ?_ ?_ ?_ ?_ ?_;(focus (simp only [go_sem,simprocAttr,hb,an,if_neg hne,pU,sk,oa];done));(iterate 12 (focus (simp [go_sem,simprocAttr,hb,an,if_neg hne,pU,sk,oa];done)));simp only [go_sem,simprocAttr,hb,an,if_neg hne,pU,sk,oa,List.map_cons,List.map_nil])|(refine aS hX hC hP (Mp) rfl rfl rfl ?_ ?_ rfl ?_;iterate 2 (focus (simp only [go_sem,simprocAttr,hb,an,if_neg hne,pU,sk,oa];done)))|(refine aS hX hC hP (Nm hne) rfl rfl rfl ?_ ?_ rfl ?_;iterate 2 (focus (simp only [go_sem,simprocAttr,hb,an,if_neg hne,pU,sk,oa];done))));try simp only [go_sem,simprocAttr,hb,an,if_neg hne,pU,sk,oa])|(intro h))
  all_goals (first|rfl|(simp only [go_sem,simprocAttr,hb,an,if_neg hne,pU,sk,oa];done))
end Go.Ab
end
section
namespace Go.Ab
open Go.Proofs
set_option maxRecDepth 10000
set_option linter.unusedSectionVars false
def arr (f:Int→Int) (m:Nat):List Int:=(List.range m).map fun i:Nat=>f (i:Int)
theorem cA {f:Int→Int} {m:Nat} :(arr f m).length=m:=by simp [arr]
theorem ox {f:Int→Int} {m i:Nat} (h:i<m):(arr f m).getD i 0=f (i:Int):=by
 simp [arr,List.getD_eq_getElem?_getD,List.getElem?_range h]
theorem Cs {l m:List Int} (hl:l.length=m.length) (h:∀i,i<l.length→l.getD i 0=m.getD i 0):l=m:=by
 refine List.ext_getElem? fun i=> ?_
 by_cases hi:i<l.length
 ·have:=h i hi
  rw [List.getD_eq_getElem?_getD,List.getD_eq_getElem?_getD,List.getElem?_eq_getElem hi,List.getElem?_eq_getElem (by omega)] at this
  rw [List.getElem?_eq_getElem hi,List.getElem?_eq_getElem (by omega)]
  simpa using this
 ·rw [List.getElem?_eq_none (by omega),List.getElem?_eq_none (by omega)]
theorem nv {u v:List Int} {e:Int} :(u++e::v).getD u.length 0=e:=by
 rw [List.getD_eq_getElem?_getD,List.getElem?_append_right (Nat.le_refl _)];simp
section
variable {g:Gr} {p:Pl} (h:cj g p)
include h
theorem ir {k:Nat} (hk:k<g.n.toNat) {e:Int} (he:e∈bA p (aq p k)):(0≤e∧e<g.es.length)∧kA g e=aq p k:=by
 have hx:=aP h.2.1 hk
 exact bR.1 ((bF h.2.1 hx.1 hx.2).mem_iff.1 he)
theorem Ct {k:Nat} (hk:k<g.n.toNat):(bA p (aq p k)).Nodup:=by
 have hx:=aP h.2.1 hk
 exact (bF h.2.1 hx.1 hx.2).nodup_iff.2 cQ
theorem y5 {k:Nat} (hk:k<g.n.toNat) {e:Int} (he:0≤e∧e<g.es.length) (ht:kA g e=aq p k):∃u v,bA p (aq p k)=u++e::v:=by
 have hx:=aP h.2.1 hk
 exact List.append_of_mem ((bF h.2.1 hx.1 hx.2).mem_iff.2 (bR.2 ⟨he,ht⟩))
theorem tH {k:Nat} (hk:k<g.n.toNat) {f F F':Int→Int} {v:Nat→Int} (hin:∀u w e,bA p (aq p k)=u++e::w→F' e=v u.length) (hout:∀e:Int,kA g e≠aq p k→F' e=F e):
 jo (arr F g.es.length) (bA p (aq p k)) v (bA p (aq p k)).length=arr F' g.es.length:=by
 refine Cs (by rw [fG,cA,cA]) fun i hi=> ?_
 rw [fG,cA] at hi
 rw [ox hi]
 by_cases ht:kA g (i:Int)=aq p k
 ·obtain ⟨u,w,Cu⟩:=y5 h hk (e:=(i:Int)) (by omega) ht
  have e1:(bA p (aq p k)).getD u.length 0=(i:Int):=by rw [Cu];exact nv
  have:=wR (A:=arr F g.es.length) (o:=bA p (aq p k)) (f:=v) (i:=u.length) (by rw [e1,cA];simpa using hi) (j:=(bA p (aq p k)).length) (by rw [Cu];simp) fun q hq e2=>by
   rw [e1,Int.toNat_natCast] at e2
   have h2:=ir h hk (aY (d:=0) hq)
   have h3:(bA p (aq p k)).getD q 0=(i:Int):=by omega
   have cC:=Ct h hk
   have:(bA p (aq p k))[q]'hq=(bA p (aq p k))[u.length]'(by rw [Cu];simp):=by
    rw [List.getD_eq_getElem?_getD,List.getElem?_eq_getElem hq] at h3
    rw [List.getD_eq_getElem?_getD,List.getElem?_eq_getElem (by rw [Cu];simp)] at e1
    simp only [Option.getD_some] at h3 e1
    rw [h3,e1]
   exact (List.getElem_inj cC).1 this
  rw [e1,Int.toNat_natCast] at this
  rw [this,hin u w (i:Int) Cu]
 ·rw [tF fun q hq e2=> ?_,ox hi,hout _ ht]
  have h2:=ir h hk (aY (d:=0) hq)
  exact ht (by rw [← h2.2];congr 1;omega)
theorem Jo {k:Nat} (hk:k<g.n.toNat):lF (arr (LK g p k) g.es.length) (bA p (aq p k)) (if k=0 then 0 else LK g p k (dS g p (aq p k))) (cK p k) (bA p (aq p k)).length=arr (LK g p (k+1)) g.es.length:=by
 refine tH (f:=fun _=>0) h hk (fun u w e Cu=> ?_) fun e he=>by rw [LK,if_neg he]
 obtain ⟨a,b⟩:=mg h hk Cu
 rw [LK,if_pos a,b]
theorem Jp {r:Int} {k:Nat} (hk:k<g.n.toNat):lG (arr (RK g p r k) g.es.length) (bA p (aq p k)) (if k=0 then r else RK g p r k (lE g p (aq p k))) (cK p k) (bA p (aq p k)).length=arr (RK g p r (k+1)) g.es.length:=by
 refine tH (f:=fun _=>0) h hk (fun u w e Cu=> ?_) fun e he=>by rw [RK,if_neg he]
 obtain ⟨a,b⟩:=mg h hk Cu
 rw [RK,if_pos a,b]
theorem wS (hI:nG g=true):∀ {k:Nat},k<g.n.toNat→∀t∈(fK g p k).row,0≤t.1
 |0,_,t,ht=>by cases ht
 |k+1,hk,t,ht=>by
  have hm:=aC h.1
  have ih:=wS hI (k:=k) (by omega)
  obtain ⟨hi,_,_⟩:=di hm h.2.1 (k:=k) (by omega) fun j hj=>h.2.2 j (by omega)
  obtain ⟨A,X,C,hr,_,_,_,hs⟩:=gR hm hi.tofY (h.2.2 k (by omega))
  have hO:bA p (aq p k)≠ []:=fun h1=>by
   have:=(dR h hI (aP h.2.1 (show k<g.n.toNat by omega))).1 h1
   have:=dh h.2.1 (show k<g.n.toNat by omega) (by omega) this
   omega
  have ht:t∈(aB g (fK g p k) (aq p k) (bA p (aq p k))).2.row:=ht
  rw [hs] at ht
  simp only [List.mem_append] at ht
  rcases ht with (ht|ht)|ht
  ·exact ih t (by rw [hr];simp [ht])
  ·unfold aV at ht
   rw [if_neg hO] at ht
   obtain ⟨i,hi2,rfl⟩:=List.mem_map.1 ht
   exact (ir h (show k<g.n.toNat by omega) hi2).1.1
  ·exact ih t (by rw [hr];simp [ht])
theorem xZ (hI:nG g=true) {k:Nat} (hk:k<g.n.toNat):iF (ff g p k)=ff g p k:=by
 have hm:=aC h.1
 obtain ⟨hi,_,_⟩:=di hm h.2.1 (k:=k) (by omega) fun j hj=>h.2.2 j (by omega)
 obtain ⟨A,X,C,hr,_,_,_,hs⟩:=gR hm hi.tofY (h.2.2 k hk)
 have e:ff g p k=X:=by unfold ff;rw [hs]
 rw [e]
 refine List.filter_eq_self.2 fun t ht=>decide_eq_true (wS h hI hk t ?_)
 rw [hr];simp [ht]
theorem Cv (hI:nG g=true) {k:Nat} (hk:k<g.n.toNat):cl g p (aq p k)=(ff g p k).map (·.1):=by
 unfold cl
 rw [ng h.2.1 (Nat.le_refl _) hk,xZ h hI hk]
end
section
variable (g:Gr) (p:Pl)
def eV:Nat→List Int
 |0=>bA p (aq p 0)
 |j+1=>if bA p (aq p (j+1))= [] then eV j else (eV j).take (c7 (eV j) (dS g p (aq p (j+1)))).toNat++bA p (aq p (j+1))++(eV j).drop ((c7 (eV j) (dS g p (aq p (j+1)))).toNat+(cl g p (aq p (j+1))).length)
def kH:Nat→List Int
 |0=> [0]++eD 1 ((bA p (aq p 0)).length - 1)++ [-1]
 |j+1=>(kH j).take ((c7 (eV g p j) (dS g p (aq p (j+1)))).toNat+1)++eD (cK p (j+1)) ((bA p (aq p (j+1))).length - 1)++(kH j).drop ((c7 (eV g p j) (dS g p (aq p (j+1)))).toNat+(cl g p (aq p (j+1))).length)
def r8 (k:Nat):List Int:=((cl g p (aq p k)).dropLast).map (RK g p (-1) k)
def xb:Nat→List Int
 |0=> [aq p (g.n.toNat - 1)]
 |k+1=>kG (xb k) (r8 g p k) (aq p k) (r8 g p k).length++List.replicate ((bA p (aq p k)).length - 1) 0
end
section
variable {g:Gr} {p:Pl}
theorem p8:∀ {k:Nat},(xb g p k).length=cK p k
 |0=>rfl
 |k+1=>by rw [xb,List.length_append,ow,List.length_replicate,p8,cK]
variable (h:cj g p)
include h
theorem Cw {A I C:List Int} (cC:(A++I++C).Nodup) (hI:I≠ []):c7 (A++I++C) (I.headD 0)=(A.length:Int):=by
 obtain ⟨a,u,rfl⟩:=gZ hI
 obtain ⟨k,h1,h2,h3⟩:=c8 (l:=A++a::u++C) (x:=a) (by simp)
 have e:A++a::u++C=A++a::(u++C):=by simp
 have h4:(A++a::u++C).getD A.length 0=a:=by rw [e];exact nv
 show c7 _ a=_
 rw [h1]
 have hA:A.length<(A++a::u++C).length:=by simp
 rw [List.getD_eq_getElem?_getD,List.getElem?_eq_getElem h2] at h3
 rw [List.getD_eq_getElem?_getD,List.getElem?_eq_getElem hA] at h4
 simp only [Option.getD_some] at h3 h4
 have:=(List.getElem_inj cC (h₀:=h2) (h₁:=hA)).1 (h3.trans h4.symm)
 omega
theorem Cx {k:Nat} (hk:k≤g.n.toNat):(WK g p k).Nodup:=by
 have hm:=aC h.1
 obtain ⟨hi,_,_⟩:=di hm h.2.1 (k:=k) (by omega) fun j hj=>h.2.2 j (by omega)
 exact Cn hi
theorem Cy {r:Int} {k:Nat} (hk:k<g.n.toNat) (hO:bA p (aq p k)≠ []) {j:Nat} (h1:k+1≤j) (h2:j≤g.n.toNat):(bA p (aq p k)).map (RK g p r j)=eD (cK p k) ((bA p (aq p k)).length - 1)++ [if k=0 then r else RK g p r k (lE g p (aq p k))]:=by
 obtain ⟨v,b,hv⟩:=cE hO
 have e1:((bA p (aq p k)).length - 1)=v.length:=by rw [hv];simp
 rw [e1]
 conv=>lhs;rw [hv]
 rw [List.map_append,List.map_cons,List.map_nil,rX h hk hv h1 h2]
 congr 1
 refine List.ext_getElem? fun i=> ?_
 by_cases hi:i<v.length
 ·rw [List.getElem?_map,List.getElem?_eq_getElem hi,eD,List.getElem?_map,List.getElem?_range hi,Option.map_some,Option.map_some]
  have hs:v=v.take i++v[i]::v.drop (i+1):=by simp
  obtain ⟨c,w,Mq⟩:∃c w,v.drop (i+1)++ [b]=c::w:=by
   cases hd:v.drop (i+1) with
   |nil=>exact ⟨b, [],rfl⟩
   |cons c w=>exact ⟨c,w++ [b],rfl⟩
  have h3:bA p (aq p k)=v.take i++v[i]::c::w:=by
   rw [hv]
   conv=>lhs;rw [hs]
   rw [List.append_assoc,List.cons_append,Mq]
  rw [iq h hk h3 h1 h2,List.length_take,Nat.min_eq_left (by omega)]
  congr 1
 ·rw [List.getElem?_eq_none (by simpa using hi),List.getElem?_eq_none (by rw [jq];omega)]
theorem uV (hI:nG g=true):∀ {j:Nat},j+1<g.n.toNat→eV g p j=WK g p (j+1)∧kH g p j=0::(WK g p (j+1)).map (RK g p (-1) (j+1))∧WK g p (j+1)≠ []
 |0,hj=>by
  have hO:bA p (aq p 0)≠ []:=fun h1=>by
   have:=(dR h hI (aP h.2.1 (show 0<g.n.toNat by omega))).1 h1
   have:=dh h.2.1 (show 0<g.n.toNat by omega) (by omega) this
   omega
  refine ⟨(rY h (by omega)).symm, ?_,by rw [rY h (by omega)];exact hO⟩
  rw [rY h (by omega),Cy h (by omega) hO (Nat.le_refl _) (by omega),if_pos rfl]
  rfl
 |j+1,hj=>by
  obtain ⟨i1,i2,i3⟩:=uV hI (j:=j) (by omega)
  obtain ⟨A,C,e1,hne,e2⟩:=kZ h (k:=j+1) (by omega) (by omega)
  have hO:bA p (aq p (j+1))≠ []:=fun h1=>by
   have:=(dR h hI (aP h.2.1 (show j+1<g.n.toNat by omega))).1 h1
   have:=dh h.2.1 (show j+1<g.n.toNat by omega) (by omega) this
   omega
  have cC:=Cx h (k:=j+1) (by omega)
  have F8:c7 (WK g p (j+1)) (dS g p (aq p (j+1)))=(A.length:Int):=by
   rw [e1] at cC ⊢
   exact Cw h cC hne
  have y4:∀a∈WK g p (j+1),RK g p (-1) (j+1+1) a=RK g p (-1) (j+1) a:=fun a ha=>by
   obtain ⟨i,hi,e⟩:=pZ h (by omega) ha
   rw [fS h (by omega) e (j:=j+1+1) (by omega) (by omega),fS h (by omega) e (j:=j+1) (by omega) (by omega)]
  refine ⟨?_, ?_,by rw [e2];simp [hO]⟩
  ·rw [eV,if_neg hO,i1,F8,Int.toNat_natCast,e2]
   congr 1
   ·congr 1
    rw [e1,List.append_assoc,List.take_left]
   ·rw [e1, ← List.length_append,List.drop_left]
  ·rw [kH,i1,i2,F8,Int.toNat_natCast,List.take_succ_cons,e2]
   have e3:(WK g p (j+1)).map (RK g p (-1) (j+1))=A.map (RK g p (-1) (j+1))++((cl g p (aq p (j+1))).map (RK g p (-1) (j+1))++C.map (RK g p (-1) (j+1))):=by rw [e1];simp
   have hA:A.map (RK g p (-1) (j+1+1))=A.map (RK g p (-1) (j+1)):=List.map_congr_left fun a ha=>y4 a (by rw [e1];simp [ha])
   have hC:C.map (RK g p (-1) (j+1+1))=C.map (RK g p (-1) (j+1)):=List.map_congr_left fun a ha=>y4 a (by rw [e1];simp [ha])
   rw [List.map_append,List.map_append,hA,hC,Cy h (by omega) hO (Nat.le_refl _) (by omega),if_neg (by omega)]
   rw [e3,List.take_append_of_le_length (by simp),List.take_of_length_le (by simp)]
   obtain ⟨u,a,hu⟩:=cE hne
   have hl:(cl g p (aq p (j+1))).length=u.length+1:=by rw [hu];simp
   rw [hl,show A.length+(u.length+1)=(A.length+u.length)+1 by omega,List.drop_succ_cons]
   have e4:(A.map (RK g p (-1) (j+1))++((cl g p (aq p (j+1))).map (RK g p (-1) (j+1))++C.map (RK g p (-1) (j+1)))).drop (A.length+u.length)=RK g p (-1) (j+1) (lE g p (aq p (j+1)))::C.map (RK g p (-1) (j+1)):=by
    rw [kE h hu,hu]
    have:A.map (RK g p (-1) (j+1))++((u++ [a]).map (RK g p (-1) (j+1))++C.map (RK g p (-1) (j+1)))=(A++u).map (RK g p (-1) (j+1))++(RK g p (-1) (j+1) a::C.map (RK g p (-1) (j+1))):=by simp
    rw [this,show A.length+u.length=((A++u).map (RK g p (-1) (j+1))).length by simp,List.drop_left]
   rw [e4]
   simp
theorem eW {A B:List Int} (h:B≠ []):(A++B).dropLast=A++B.dropLast:=by
 obtain ⟨u,a,rfl⟩:=cE h
 rw [← List.append_assoc,List.dropLast_concat,List.dropLast_concat]
theorem y6 (hI:nG g=true):∀ {k:Nat},1≤k→k<g.n.toNat→∀a∈(WK g p k).dropLast,1≤RK g p (-1) k a∧RK g p (-1) k a<cK p k
 |0,h1,_,_,_=>by omega
 |k+1,_,hk,a,ha=>by
  have hO:bA p (aq p k)≠ []:=fun h1=>by
   have:=(dR h hI (aP h.2.1 (show k<g.n.toNat by omega))).1 h1
   have:=dh h.2.1 (show k<g.n.toNat by omega) (by omega) this
   omega
  have hc:cK p (k+1)=cK p k+((bA p (aq p k)).length - 1):=rfl
  have GC:0<cK p k:=ot
  have hnew:∀b∈(bA p (aq p k)).dropLast,1≤RK g p (-1) (k+1) b∧RK g p (-1) (k+1) b<cK p (k+1):=fun b hb=>by
   obtain ⟨v,c,hv⟩:=cE hO
   rw [hv,List.dropLast_concat] at hb
   obtain ⟨u,w,Cu⟩:=List.append_of_mem hb
   obtain ⟨c',w',Mq⟩:∃c' w',w++ [c]=c'::w':=by
    cases w with
    |nil=>exact ⟨c, [],rfl⟩
    |cons d w=>exact ⟨d,w++ [c],rfl⟩
   have h3:bA p (aq p k)=u++b::c'::w':=by rw [hv,Cu, ← Mq];simp
   rw [iq h (show k<g.n.toNat by omega) h3 (Nat.le_refl _) (by omega)]
   have:(bA p (aq p k)).length=u.length+(w'.length+2):=by rw [h3];simp
   omega
  by_cases h0:k=0
  ·subst h0
   rw [rY h (by omega)] at ha
   exact hnew a ha
  ·obtain ⟨A,C,e1,hne,e2⟩:=kZ h h0 (show k<g.n.toNat by omega)
   have ih:=y6 hI (k:=k) (by omega) (by omega)
   have y4:∀a∈WK g p k,RK g p (-1) (k+1) a=RK g p (-1) k a:=fun a ha=>by
    obtain ⟨i,hi,e⟩:=pZ h (by omega) ha
    rw [fS h (by omega) e (j:=k+1) (by omega) (by omega),fS h (by omega) e (j:=k) (by omega) (by omega)]
   have old:∀b∈(WK g p k).dropLast,1≤RK g p (-1) (k+1) b∧RK g p (-1) (k+1) b<cK p (k+1):=fun b hb=>by
    rw [y4 b ((List.dropLast_sublist _).subset hb)]
    have:=ih b hb
    omega
   rw [e1] at old y4
   rw [e2] at ha
   by_cases hC:C= []
   ·subst hC
    rw [List.append_nil] at ha old
    rw [eW h hO] at ha
    rw [eW h hne] at old
    rcases List.mem_append.1 ha with ha|ha
    ·exact old a (by simp [ha])
    ·exact hnew a ha
   ·rw [eW h hC] at ha old
    rcases List.mem_append.1 ha with ha|ha
    ·rcases List.mem_append.1 ha with ha|ha
     ·exact old a (by simp [ha])
     ·obtain ⟨v,b,hv⟩:=cE hO
      rw [hv,List.mem_append,List.mem_singleton] at ha
      rcases ha with ha|rfl
      ·exact hnew a (by rw [hv,List.dropLast_concat];exact ha)
      ·obtain ⟨u,c,hu⟩:=cE hne
       rw [rX h (show k<g.n.toNat by omega) hv (Nat.le_refl _) (by omega),if_neg h0,kE h hu, ← y4 c (by rw [hu];simp)]
       exact old c (by rw [hu];simp)
    ·exact old a (by simp [ha])
theorem DV (hI:nG g=true) {k:Nat} (hk:k<g.n.toNat):∀f∈r8 g p k,0≤f∧f<(xb g p k).length:=by
 intro f hf
 rw [p8]
 obtain ⟨a,ha,rfl⟩:=List.mem_map.1 hf
 have O4:cl g p (aq p k)≠ []:=fun h0=>by rw [h0] at ha;simp at ha
 have vm:=yX h hk O4
 obtain ⟨A,C,e1,hne,_⟩:=kZ h vm hk
 have:=y6 h hI (k:=k) (by omega) hk a (by
  rw [e1]
  by_cases hC:C= []
  ·subst hC;rw [List.append_nil,eW h hne];simp [ha]
  ·rw [eW h hC];simp [(List.dropLast_sublist _).subset ha])
 omega
theorem Cz (hI:nG g=true) {j:Nat} (hj:j+1<g.n.toNat):∃a:Nat,c7 (eV g p j) (dS g p (aq p (j+1)))=a∧0<(cl g p (aq p (j+1))).length∧a+(cl g p (aq p (j+1))).length≤(eV g p j).length∧
 (kH g p j).length=(eV g p j).length+1∧(kH g p j).getD a 0=LK g p (j+1) (dS g p (aq p (j+1)))∧(kH g p j).getD (a+(cl g p (aq p (j+1))).length) 0=RK g p (-1) (j+1) (lE g p (aq p (j+1)))∧
 ((kH g p j).take (a+(cl g p (aq p (j+1))).length)).drop (a+1)=r8 g p (j+1):=by
 obtain ⟨i1,i2,i3⟩:=uV h hI hj
 obtain ⟨A,C,e1,hne,e2⟩:=kZ h (k:=j+1) (by omega) hj
 have cC:=Cx h (k:=j+1) (by omega)
 have F8:c7 (WK g p (j+1)) (dS g p (aq p (j+1)))=(A.length:Int):=by
  rw [e1] at cC ⊢
  exact Cw h cC hne
 have hlk:=(xX (r:= -1) h hI (k:=j+1) (by omega) hj i3).1
 obtain ⟨u,c,hu⟩:=cE hne
 obtain ⟨c0,u0,DK⟩:=gZ hne
 have hl:(cl g p (aq p (j+1))).length=u.length+1:=by rw [hu];simp
 rw [i1,i2]
 refine ⟨A.length,F8,by omega,by rw [e1];simp,by simp, ?_, ?_, ?_⟩
 ·rw [e1,b7,b7] at hlk
  have h1:=hlk.1.2
  rw [DK] at h1
  rw [ou h DK,h1.1,e1]
  rcases List.eq_nil_or_concat A with hA|⟨A',t,hA⟩
  ·subst hA;rfl
  ·rw [List.concat_eq_append] at hA
   subst hA
   rw [ew]
   have:(0::(A'++ [t]++cl g p (aq p (j+1))++C).map (RK g p (-1) (j+1)))=(0::A'.map (RK g p (-1) (j+1)))++RK g p (-1) (j+1) t::((cl g p (aq p (j+1))++C).map (RK g p (-1) (j+1))):=by simp
   rw [this]
   have h2:(A'++ [t]).length=(0::A'.map (RK g p (-1) (j+1))).length:=by simp
   rw [h2];exact nv
 ·rw [kE h hu,e1,hl]
  have:(0::(A++cl g p (aq p (j+1))++C).map (RK g p (-1) (j+1)))=(0::(A++u).map (RK g p (-1) (j+1)))++RK g p (-1) (j+1) c::(C.map (RK g p (-1) (j+1))):=by rw [hu];simp
  rw [this]
  have h2:A.length+(u.length+1)=(0::(A++u).map (RK g p (-1) (j+1))).length:=by simp;omega
  rw [h2];exact nv
 ·rw [e1,hl]
  have:(0::(A++cl g p (aq p (j+1))++C).map (RK g p (-1) (j+1)))=(0::A.map (RK g p (-1) (j+1)))++(u.map (RK g p (-1) (j+1))++(RK g p (-1) (j+1) c::(C.map (RK g p (-1) (j+1))))):=by rw [hu];simp
  rw [this,List.take_append,List.drop_append]
  have h2:(0::A.map (RK g p (-1) (j+1))).length=A.length+1:=by simp
  rw [h2,List.take_of_length_le (by rw [h2];omega),List.drop_of_length_le (by rw [h2];omega),h2]
  rw [show A.length+(u.length+1) - (A.length+1)=u.length by omega,Nat.sub_self,List.drop_zero,List.nil_append]
  rw [List.take_append_of_le_length (by simp),List.take_of_length_le (by simp)]
  unfold r8
  rw [hu,List.dropLast_concat]
end
end Go.Ab
end
section
namespace Go.Ab
open Go.Proofs
attribute [local congr] ACall.congr
set_option maxRecDepth 10000
set_option maxHeartbeats 8000000
def swapT (l:List It) (k:Nat):List It:=(List.range l.length).map fun p=>if p<k∨l.length - 1<p+k then l.getD (l.length - 1 - p) (0,0,0) else l.getD p (0,0,0)
def Nn (rs:List Int) (l:List It):Int:=match l.find? (fun t=>decide (t.2.2∈rs)) with
 |some t=>t.2.2
 |none=>rs.headD (-1)
end Go.Ab
end
section
namespace Go.Ab
open Go.Proofs
attribute [local congr] ACall.congr
set_option maxRecDepth 10000
set_option maxHeartbeats 8000000
def P8 (b:Bool) (g:Gr) (p:Pl):List Int × List Int × Int:=
 if (cM b g p).2.1=0∧nG g=true then (Cf g p false g.n.toNat,Cf g p true g.n.toNat,0) else ([], [],1)
end Go.Ab
end
section
namespace Go.Ab
open Go.Proofs
attribute [local congr] ACall.congr
set_option maxRecDepth 10000
set_option maxHeartbeats 8000000
theorem r9 {b:Bool} {g:Gr} {p:Pl} (hr:b=true↔(bH g).1=0∧bN g p) (h:cj g p):cM b g p=((fD g p g.n.toNat,ku g p),(0,0)):=by
 obtain rfl:b=true:=hr.2 ⟨h.1,h.2.1⟩
 unfold cM
 rw [if_neg (by simp),fE.2 h.2.2]
 rfl
end Go.Ab
end
section
namespace Go.Ab
open Go.Proofs
attribute [local congr] ACall.congr
set_option maxRecDepth 60000
set_option maxHeartbeats 8000000
structure Fc where
 L:List Int
 R:List Int
 lo:List Int
 hi:List Int
def k7 (g:Gr) (p:Pl) (f:Int):Int:=if f= -1 then (cK p g.n.toNat:Int) else f
def Ev (g:Gr) (p:Pl):Fc:=⟨arr (LK g p g.n.toNat) g.es.length,(arr (RK g p (-1) g.n.toNat) g.es.length).map (k7 g p),gS p g.n.toNat++ [aq p 0],xb g p g.n.toNat++ [aq p (g.n.toNat - 1)]⟩
def p9:Fc:=⟨[], [], [], []⟩
def Ew (b:Bool) (g:Gr) (p:Pl):Fc × Int:=if ((cM b g p).2.1=0∧nG g=true)∧0<g.es.length then (Ev g p,0) else (p9,1)
def fH (f:Fc):AV:= .agg [.d (sI f.L), .d (sI f.R), .d (sI f.lo), .d (sI f.hi)]
def kI (l:List Int) (f:Int→Int) (j:Nat):List Int:=(l.take j).map f++l.drop j
theorem CA {l:List Int} {f:Int→Int} {j:Nat} :(kI l f j).length=l.length:=by
 simp only [kI,List.length_append,List.length_map,List.length_take,List.length_drop];omega
theorem tI {l:List Int} {f:Int→Int} {j:Nat} (h:j<l.length):kI l f (j+1)=(kI l f j).set j (f (l.getD j 0)):=by
 have h1:((l.take j).map f).length=j:=by simp;omega
 have e:l.getD j 0=l[j]:=by rw [List.getD_eq_getElem?_getD,List.getElem?_eq_getElem h];rfl
 unfold kI
 have e2:l.take (j+1)=l.take j++ [l[j]]:=by rw [List.take_add_one,List.getElem?_eq_getElem h];rfl
 rw [List.drop_eq_getElem_cons h,List.set_append,h1,if_neg (by omega),Nat.sub_self,List.set_cons_zero,e2,e,List.map_append,List.append_assoc]
 rfl
theorem y7 {l:List Int} {f:Int→Int} {j:Nat} (h:j<l.length):(kI l f j).getD j 0=l.getD j 0:=by
 have h1:((l.take j).map f).length=j:=by simp;omega
 unfold kI
 rw [List.getD_eq_getElem?_getD,List.getElem?_append_right (by omega),h1,Nat.sub_self,List.drop_eq_getElem_cons h,List.getD_eq_getElem?_getD,List.getElem?_eq_getElem h];rfl
theorem CB {l:List Int} {f:Int→Int} :kI l f l.length=l.map f:=by simp [kI]
theorem Am {l:List Int} {f:Int→Int} {j:Nat} (h:j<l.length) (hf:f (l.getD j 0)=l.getD j 0):kI l f (j+1)=kI l f j:=by
 rw [tI h,hf]
 refine List.ext_getElem? fun i=> ?_
 rw [List.getElem?_set]
 split
 ·rename_i e;subst e
  split
  ·have:=y7 (l:=l) (f:=f) h
   rename_i hl
   rw [List.getD_eq_getElem?_getD,List.getElem?_eq_getElem hl] at this
   rw [List.getElem?_eq_getElem hl]
   simpa using this.symm
  ·rename_i hl;rw [List.getElem?_eq_none (by omega)]
 ·rfl
theorem An {g:Gr} {p:Pl} (h:cj g p):0<(bB (·.2) g).length∧(bB (·.2) g).getD 0 0=aq p 0:=by
 have hn:=aW (aC h.1)
 have h0:=aP h.2.1 (k:=0) (by omega)
 have hm:aq p 0∈bB (·.2) g:=kU.2 ⟨h0,fF h⟩
 have hl:=List.length_pos_of_mem hm
 refine ⟨hl, ?_⟩
 have:=kU.1 (aY (l:=bB (·.2) g) (m:=0) (d:=0) hl)
 exact mZ h.1 this.1 h0 this.2 (fF h)
theorem Ao {g:Gr} {p:Pl} (h:cj g p) (hI:nG g=true):0<(bB (·.1) g).length∧(bB (·.1) g).getD 0 0=aq p (g.n.toNat - 1):=by
 have hn:=aW (aC h.1)
 have h0:=aP h.2.1 (k:=g.n.toNat - 1) (by omega)
 have hm:aq p (g.n.toNat - 1)∈bB (·.1) g:=kW.2 ⟨h0,(ni h.2.1 h0.1 h0.2).2 (om h).1⟩
 have hl:=List.length_pos_of_mem hm
 refine ⟨hl, ?_⟩
 have:=kW.1 (aY (l:=bB (·.1) g) (m:=0) (d:=0) hl)
 exact (dR h hI this.1).1 ((ni h.2.1 this.1.1 this.1.2).1 this.2)
theorem Ex {g:Gr} {p:Pl} (h:cj g p):∀ {k:Nat},k≤g.n.toNat→cK p k≤1+k*g.es.length
 |0,_=>by simp [cK]
 |k+1,hk=>by
  have:=Ex h (k:=k) (by omega)
  have hx:=aP h.2.1 (show k<g.n.toNat by omega)
  have:=kV h.2.1 hx.1 hx.2
  rw [cK,Nat.add_mul];omega
theorem o8 {g:Gr} {p:Pl} (h:cj g p) {k:Nat} (hk:k≤g.n.toNat):cK p k≤100000∧(∀x:Int,(bA p x).length≤100000∨¬o6 g x):=by
 have hn:=aW (aC h.1)
 have h1:=Ex h hk
 have h2:k*g.es.length≤64*128:=Nat.mul_le_mul (by omega) (by omega)
 refine ⟨by omega,fun x=> ?_⟩
 by_cases hx:o6 g x
 ·have:=kV h.2.1 hx.1 hx.2;exact .inl (by omega)
 ·exact .inr hx
theorem Ap (g:Gr) (p:Pl) (hp:wu p) (hrun:cj g p) (hI:nG g=true) (hm0:0<g.es.length) (b:Bool) (hr:b=true↔(bH g).1=0∧bN g p):
 Spec Tryz.prog 17 (Args [eG g,ePl p]) [] (.tup [fH (Ev g p),eN 0]) []:=by
 have hm:=aC hrun.1
 have hn:=aW hm
 have hle:=bW hrun.2.1
 have hO:=lD g (by omega) p hp b hr
 have FG:=rR g (by omega)
 have FH:=eR g hm
 have O5:=dG g hm
 have O6:=qQ g hm
 obtain ⟨hs1,tU⟩:=An hrun
 obtain ⟨P9,hs4⟩:=Ao hrun hI
 rw [r9 hr hrun] at hO
 simp only at hO
 rw [hI] at FG
 have hb0:decide ((g.es.length:Int)=0)=false:=decide_eq_false (by omega)
 have hn2:1<g.n.toNat:=by
  refine Decidable.byContradiction fun hc=> ?_
  have ht:=bw hm (i:=0) hm0
  have hh:=bL hm (i:=0) hm0
  obtain ⟨j,hj,_⟩:=rW hrun (e:=0) (by omega) (k:=0) (by omega) (by
   obtain ⟨k,hk,e⟩:=fI hrun.2.1 hh.1 hh.2
   obtain rfl:k=0:=by omega
   exact e.symm)
  omega
 obtain ⟨s0,hs0⟩:∃s:Nat,aq p 0=s:=by have:=aP hrun.2.1 (k:=0) (by omega);exact ⟨(aq p 0).toNat,by omega⟩
 have Mr:s0<p.outs.length:=by have:=aP hrun.2.1 (k:=0) (by omega);have:=hrun.2.1.1;omega
 have qm:=mX Mr
 have Ms:p.outs.getD s0 []=bA p (aq p 0):=by unfold bA;rw [hs0,Int.toNat_natCast]
 rw [Ms] at qm
 have O7:=kV hrun.2.1 (aP hrun.2.1 (k:=0) (by omega)).1 (aP hrun.2.1 (k:=0) (by omega)).2
 have Cr:=tG (aq p 0) 0 (-1) (bA p (aq p 0)) (.sl 1 []) (sI [0, -1]) (arr (LK g p 0) g.es.length) (arr (RK g p (-1) 0) g.es.length) [aq p 0] [aq p (g.n.toNat - 1)] (by omega) (fun i hi=>by rw [cA];exact (ir hrun (by omega) hi).1) (by rw [cA,cA]) (by simp) (by simp)
 have No:=Jo hrun (k:=0) (by omega)
 have Np:=Jp (r:= -1) hrun (k:=0) (by omega)
 rw [if_pos rfl] at No Np
 have Jq:cl g p (aq p 0)= []:=by
  have:=jm hrun (aP hrun.2.1 (k:=0) (by omega))
  rw [fF hrun] at this
  exact List.eq_nil_of_length_eq_zero this
 have hi1:xb g p 1= [aq p (g.n.toNat - 1)]++List.replicate ((bA p (aq p 0)).length - 1) 0:=by
  have:r8 g p 0= []:=by unfold r8;rw [Jq];rfl
  show kG (xb g p 0) (r8 g p 0) (aq p 0) (r8 g p 0).length++_=_
  rw [this];rfl
 have Mt:gS p 1= [aq p 0]++List.replicate ((bA p (aq p 0)).length - 1) (aq p 0):=rfl
 have hc1:([aq p 0]:List Int).length=cK p 0:=rfl
 rw [hc1,No,Np, ← hi1, ← Mt] at Cr
 have wO:∀f:Int→Int,(∀e,f e=0)→List.replicate g.es.length [D.sc (.int .i64 0)]=(arr f g.es.length).map rI:=fun f hf=>by
  refine List.ext_getElem? fun i=> ?_
  simp only [arr,List.getElem?_replicate,List.getElem?_map]
  by_cases hi:i<g.es.length
  ·rw [if_pos hi,List.getElem?_range hi];simp [hf,rI]
  ·rw [if_neg hi,List.getElem?_eq_none (by simpa using hi)];rfl
 have fh:=wO (LK g p 0) fun _=>rfl
 have Ey:=j8 (bA p (aq p 0)) (by omega)
 have Mu:=iH [0, -1] (eD (cK p 0) ((bA p (aq p 0)).length - 1)) 1 1 (by simp) (by simp) (by rw [jq];omega)
 have E6:List.take 1 [(0:Int), -1]++eD (cK p 0) ((bA p (aq p 0)).length - 1)++List.drop 1 [(0:Int), -1]=kH g p 0:=rfl
 rw [E6] at Mu
 have O8:RK g p (-1) 0=LK g p 0:=by funext e;rfl
 rw [O8] at Cr
 have DD:eV g p 0=bA p (aq p 0):=rfl
 have Ey:Spec Tryz.prog 53 (Args [.d (sI (bA p (s0:Int)))]) [] (.d (sI (eV g p 0))) []:=by
  rw [DD, ← hs0];exact Ey
 generalize Nq:arr (LK g p 0) g.es.length=A0 at Cr fh
 have qk:=jq (c:=cK p 0) (k:=(bA p (aq p 0)).length - 1)
 generalize eD (cK p 0) ((bA p (aq p 0)).length - 1)=gs at Cr Mu qk
 unfold Gd Ge at Cr
 have wT:List.drop 1 (List.map rI p.ord)=(p.ord.drop 1).map rI:=by rw [List.map_drop]
 have hdl:(p.ord.drop 1).length=g.n.toNat - 1:=by rw [List.length_drop];omega
 have uM:List.take p.ord.length (List.map rI p.ord)=List.map rI p.ord:=List.take_of_length_le (by simp)
 generalize Kl:g.n.toNat - 1=N1 at hdl
 (refine Spec.intro (C:=T.cfg [67] []) (rs:= [.c 4 32, .t 5]) (T.ak _ _) Tryz.func17 rfl rfl Tryz.ntmps17 Tryz.results17 (by simp [AObj.isNest]) (by simp [AObj.isNest]) (by kernel_rfl) ?_;intro X hX hP hC aK aL vals hA;refine ⟨_,by simp,hA, ?_⟩;have af:X.P.follows .mixedOrders=true:=(by rw [hP];exact T.mixed);clear aK aL)
 repeat' (first|fail|((first|((with_reducible (first|apply oA|apply oB));exact rfl;intro K hK)|(refine hK _ ?_;clear hK K)|((with_reducible (first|apply oG|apply oH));iterate 3 exact rfl)|((with_reducible apply oI);(iterate 2 exact rfl);intro K hK)|(with_reducible (first|apply wI|apply wJ|apply wK)));try simp only [go_sem,simprocAttr,hb0,tU,hs4,fh,hs0,qm,wT,hdl,rI])|(show cV _ (.seq (.region 8 _ _) _) _ _;(refine vN 54 0 1 rfl rfl rfl ?_;simp only [LA.app,ASt.put,ASt.kill,putM,rml,List.set_cons_zero,List.set_cons_succ,go_sem,simprocAttr,hb0,tU,hs4,fh,hs0,qm,wT,hdl,rI]);(refine Bx hX 52 rfl ?_;simp only [go_sem,simprocAttr,hb0,tU,hs4,fh,hs0,qm,wT,hdl,rI]))|(with_reducible (first|apply oC|apply oJ|exact oK|apply wA|apply wB|apply wC hX hC|apply wD hX hC|apply wE hX hC af|apply wF hX hC af|apply wG|apply wH|apply And.intro))|((with_reducible refine oD ?_ ?_);first|fail|kernel_rfl)|((with_reducible (first|apply oE|apply oF));(iterate 3 exact rfl);all_goals (intro h;first|(exact absurd h (by decide))|((try simp only [go_sem,simprocAttr,hb0,tU,hs4,fh,hs0,qm,wT,hdl,rI] at h);(try with_reducible intro K hK);simp only [go_sem,simprocAttr,hb0,tU,hs4,fh,hs0,qm,wT,hdl,rI])))|((first|((with_reducible apply wL);exact rfl)|((with_reducible apply wM);exact rfl));all_goals (try ((with_reducible intro h);first|(exact absurd h (by decide))|(try simp only [go_sem,simprocAttr,hb0,tU,hs4,fh,hs0,qm,wT,hdl,rI] at h))))|omega|((first|first|refine aa hX hC hP (hO) rfl rfl rfl (by simp only [go_sem,simprocAttr,hb0,tU,hs4,fh,hs0,qm,wT,hdl,rI]) rfl ?_|refine aa hX hC hP (FG) rfl rfl rfl (by simp only [go_sem,simprocAttr,hb0,tU,hs4,fh,hs0,qm,wT,hdl,rI]) rfl ?_|refine aa hX hC hP (FH) rfl rfl rfl (by simp only [go_sem,simprocAttr,hb0,tU,hs4,fh,hs0,qm,wT,hdl,rI]) rfl ?_|refine aa hX hC hP (O5) rfl rfl rfl (by simp only [go_sem,simprocAttr,hb0,tU,hs4,fh,hs0,qm,wT,hdl,rI]) rfl ?_|refine aa hX hC hP (O6) rfl rfl rfl (by simp only [go_sem,simprocAttr,hb0,tU,hs4,fh,hs0,qm,wT,hdl,rI]) rfl ?_|(refine az hX hC hP [(10000,54),(10001,59),(10002,63),(10003,65),(10004,67),(10005,300),(10006,301)] (Cr) rfl rfl rfl ?_ ?_ ?_ ?_ ?_ ?_ ?_ ?_ ?_ ?_ ?_ ?_ ?_ ?_;(focus (simp only [go_sem,simprocAttr,hb0,tU,hs4,fh,hs0,qm,wT,hdl,rI];done));(iterate 12 (focus (simp [go_sem,simprocAttr,hb0,tU,hs4,fh,hs0,qm,wT,hdl,rI];done)));simp only [go_sem,simprocAttr,hb0,tU,hs4,fh,hs0,qm,wT,hdl,rI,List.map_cons,List.map_nil])|refine aa hX hC hP (Ey) rfl rfl rfl (by simp only [go_sem,simprocAttr,hb0,tU,hs4,fh,hs0,qm,wT,hdl,rI]) rfl ?_|(refine aS hX hC hP (Mu) rfl rfl rfl ?_ ?_ rfl ?_;iterate 2 (focus (simp only [go_sem,simprocAttr,hb0,tU,hs4,fh,hs0,qm,wT,hdl,rI];done))));try simp only [go_sem,simprocAttr,hb0,tU,hs4,fh,hs0,qm,wT,hdl,rI])|(intro h))
 refine aj (fun j:Nat=>j≤N1) (fun j=>⟨[(3, .ptr 3 0),(4, .ptr 4 0),(6, .d (.sl 1 (vT (fD g p g.n.toNat)))),(10,eN s0),(11,eN (aq p N1)),(12, .ptr 54 0),(106, .d (sI (p.ord.drop 1))),(107,eN N1),(108,eN j)], [(54, .box [.d (sI (eV g p j)), .d (sI (kH g p j)), .ref 59, .ref 63, .ref 300, .ref 301]),(59, .own 3 1 ((arr (LK g p (j+1)) g.es.length).map rI)),(63, .own 3 1 ((arr (RK g p (-1) (j+1)) g.es.length).map rI)),(300, .tip 3 1 ((gS p (j+1)).map rI)),(301, .own 3 1 ((xb g p (j+1)).map rI)),(3, .box [.d (sI p.ord), .d (.sl 1 (vI p.outs))]),(4, .box [.nil 3, .nil 3, .nil 3, .nil 3])]⟩) (fun j=>N1 - j) 0 (by omega) ?_ ?_
 ·refine Le.of ?_ ?_<;>simp [go_sem,simprocAttr,Kl,uM]
  omega
 rintro j hj
 rcases Nat.lt_or_ge j N1 with hjl|F4
 ·have hb:decide ((j:Int)<(N1:Int))=true:=decide_eq_true (by omega)
  have hjn:j+1<g.n.toNat:=by omega
  obtain ⟨a,p1,p2,p3,p4,p5,p6,p7⟩:=Cz hrun hI hjn
  have Ga:=aP hrun.2.1 hjn
  have hx:(p.ord.drop 1).getD j 0=aq p (j+1):=by
   rw [List.getD_eq_getElem?_getD,List.getElem?_drop,Nat.add_comm 1 j]
   show _=p.ord.getD (j+1) 0
   rw [List.getD_eq_getElem?_getD]
  have jr:=fun i hi=>(ir hrun hjn (e:=i) hi).1
  have Aw:=kV hrun.2.1 Ga.1 Ga.2
  have Jr:=ng hrun.2.1 (Nat.le_refl _) hjn
  have hel:=nc (g:=g) (p:=p) (k:=g.n.toNat)
  have Nr:=Cv hrun hI hjn
  have hL:=Jo hrun (k:=j+1) hjn
  have hR:=Jp (r:= -1) hrun (k:=j+1) hjn
  rw [if_neg (by omega)] at hL hR
  have ud:gS p (j+1+1)=gS p (j+1)++List.replicate ((bA p (aq p (j+1))).length - 1) (aq p (j+1)):=rfl
  have hhi:xb g p (j+1+1)=kG (xb g p (j+1)) (r8 g p (j+1)) (aq p (j+1)) (r8 g p (j+1)).length++List.replicate ((bA p (aq p (j+1))).length - 1) 0:=rfl
  have Mv:=DV hrun hI hjn
  have lB:=fQ (p:=p) (k:=j+1)
  have r7:=p8 (g:=g) (p:=p) (k:=j+1)
  have Ns:=(o8 hrun (k:=j+1) (by omega)).1
  have Mw:eV g p (j+1)=if bA p (aq p (j+1))= [] then eV g p j else (eV g p j).take (c7 (eV g p j) (dS g p (aq p (j+1)))).toNat++bA p (aq p (j+1))++(eV g p j).drop ((c7 (eV g p j) (dS g p (aq p (j+1)))).toNat+(cl g p (aq p (j+1))).length):=rfl
  have Mx:kH g p (j+1)=(kH g p j).take ((c7 (eV g p j) (dS g p (aq p (j+1)))).toNat+1)++eD (cK p (j+1)) ((bA p (aq p (j+1))).length - 1)++(kH g p j).drop ((c7 (eV g p j) (dS g p (aq p (j+1)))).toNat+(cl g p (aq p (j+1))).length):=rfl
  rw [p1,Int.toNat_natCast] at Mw Mx
  obtain ⟨r1,r2,r3⟩:=uV hrun hI hjn
  have Qa:(eV g p j).length≤10000:=by
   rw [r1]
   have:=eu (m:=(List.range g.es.length).map Int.ofNat) (Cx hrun (k:=j+1) (by omega)) fun e he=>by
    have hi:=di hm hrun.2.1 (k:=j+1) (by omega) fun i hi=>hrun.2.2 i (by omega)
    obtain ⟨t,ht,rfl⟩:=List.mem_map.1 he
    obtain ⟨⟨h1,h2⟩,_⟩:=nt hm hi.1.tofY ht
    exact List.mem_map.2 ⟨t.1.toNat,List.mem_range.2 (by omega),by simp;omega⟩
   simp at this
   omega
  have hfr:dS g p (aq p (j+1))=((ff g p (j+1)).getD 0 (0,0,0)).1:=by
   unfold dS
   rw [Nr]
   cases ff g p (j+1)<;>rfl
  rw [Nr,List.length_map] at p2 p3 p6 p7 Mw Mx
  have hIx:=aQ (eV g p j) (dS g p (aq p (j+1))) (by omega)
  rw [p1] at hIx
  rw [hfr] at hIx p5
  have nj:=uU (aq p (j+1)) (bA p (aq p (j+1))) (eV g p j) (kH g p j) (arr (LK g p (j+1)) g.es.length) (arr (RK g p (-1) (j+1)) g.es.length) (gS p (j+1)) (xb g p (j+1)) a (a+(ff g p (j+1)).length) (by omega) (by omega) (by omega) (by omega) (by omega) (by rw [p7];exact Mv) (by omega) (fun i hi=>by rw [cA];exact jr i hi) (by rw [cA,cA]) (by omega) (by omega)
  rw [p7,p5,p6,lB, ← hhi, ← ud, ← Mw, ← Mx] at nj
  rw [← hfr] at nj
  rw [hL,hR] at nj
  obtain ⟨x,My⟩:∃x:Nat,aq p (j+1)=x:=⟨(aq p (j+1)).toNat,by omega⟩
  have j5:x<p.outs.length:=by have:=hrun.2.1.1;omega
  have hv:=mX j5
  have hla:p.outs.getD x []=bA p (aq p (j+1)):=by unfold bA;rw [My,Int.toNat_natCast]
  rw [hla] at hv
  have x3:=fun d=>pS (ls:=fD g p g.n.toNat) (k:=x) (by omega) d
  have hex:(fD g p g.n.toNat).getD x []=ff g p (j+1):=by rw [← Jr,My,Int.toNat_natCast]
  rw [hex] at x3
  have hvl:(vT (fD g p g.n.toNat)).length=g.n.toNat:=by rw [vT_length,hel]
  have zE:x<g.n.toNat:=by omega
  obtain ⟨bb,Nt⟩:∃bb:Nat,bb=a+(ff g p (j+1)).length:=⟨_,rfl⟩
  have oy:(a:Int)+((ff g p (j+1)).length:Int)=(bb:Int):=by omega
  rw [← Nt] at nj
  have iM:bb≤10000:=by omega
  generalize bA p (aq p (j+1))=o at nj hv
  rw [My] at nj hx
  generalize ff g p (j+1)=gn at hIx x3 oy p2
  clear Nt
  generalize E7:eV g p (j+1)=E2 at nj
  generalize eV g p j=E1 at nj hIx
  generalize hq1:kH g p (j+1)=G2 at nj
  generalize kH g p j=G1 at nj
  generalize Dv:arr (LK g p (j+1+1)) g.es.length=A2 at nj
  generalize O9:arr (RK g p (-1) (j+1+1)) g.es.length=B2 at nj
  generalize arr (LK g p (j+1)) g.es.length=A1 at nj
  generalize arr (RK g p (-1) (j+1)) g.es.length=B1 at nj
  generalize Pa:gS p (j+1+1)=L2 at nj
  generalize Pb:xb g p (j+1+1)=H2 at nj
  generalize gS p (j+1)=L1 at nj
  generalize xb g p (j+1)=H1 at nj
  generalize vT (fD g p g.n.toNat)=VE at x3 hvl
  unfold Gd Ge at nj
  repeat' (first|fail|((first|((with_reducible (first|apply oA|apply oB));exact rfl;intro K hK)|(refine hK _ ?_;clear hK K)|((with_reducible (first|apply oG|apply oH));iterate 3 exact rfl)|((with_reducible apply oI);(iterate 2 exact rfl);intro K hK)|(with_reducible (first|apply wI|apply wJ|apply wK)));try simp only [go_sem,simprocAttr,hb,hx,hv,x3,hvl,oy])|(show cV _ (.region 15 _ _) _ _;(refine bU hX 54 4 302 300 rfl rfl rfl (by first|exact .inl rfl|exact .inr rfl) (by decide) (by decide) ?_;simp only [LA.app,ASt.put,ASt.kill,subT,rmk,putM,rml,kl,AV.sub,AV.subs,AObj.sub,List.set_cons_zero,List.set_cons_succ,go_sem,simprocAttr,hb,hx,hv,x3,hvl,oy]);(refine bU hX 54 5 303 301 rfl rfl rfl (by first|exact .inl rfl|exact .inr rfl) (by decide) (by decide) ?_;simp only [LA.app,ASt.put,ASt.kill,subT,rmk,putM,rml,kl,AV.sub,AV.subs,AObj.sub,List.set_cons_zero,List.set_cons_succ,go_sem,simprocAttr,hb,hx,hv,x3,hvl,oy]))|(with_reducible (first|apply oC|apply oJ|exact oK|apply wA|apply wB|apply wC hX hC|apply wD hX hC|apply wE hX hC af|apply wF hX hC af|apply wG|apply wH|apply And.intro))|((with_reducible refine oD ?_ ?_);first|fail|kernel_rfl)|((with_reducible (first|apply oE|apply oF));(iterate 3 exact rfl);all_goals (intro h;first|(exact absurd h (by decide))|((try simp only [go_sem,simprocAttr,hb,hx,hv,x3,hvl,oy] at h);(try with_reducible intro K hK);simp only [go_sem,simprocAttr,hb,hx,hv,x3,hvl,oy])))|((first|((with_reducible apply wL);exact rfl)|((with_reducible apply wM);exact rfl));all_goals (try ((with_reducible intro h);first|(exact absurd h (by decide))|(try simp only [go_sem,simprocAttr,hb,hx,hv,x3,hvl,oy] at h))))|omega|((first|first|refine aa hX hC hP (hIx) rfl rfl rfl (by simp only [go_sem,simprocAttr,hb,hx,hv,x3,hvl,oy]) rfl ?_|(refine az hX hC hP [(10000,54),(10001,59),(10002,63),(10003,300),(10004,301),(10005,302),(10006,303)] (nj) rfl rfl rfl ?_ ?_ ?_ ?_ ?_ ?_ ?_ ?_ ?_ ?_ ?_ ?_ ?_ ?_;(focus (simp only [go_sem,simprocAttr,hb,hx,hv,x3,hvl,oy];done));(iterate 12 (focus (simp [go_sem,simprocAttr,hb,hx,hv,x3,hvl,oy];done)));simp only [go_sem,simprocAttr,hb,hx,hv,x3,hvl,oy,List.map_cons,List.map_nil]));try simp only [go_sem,simprocAttr,hb,hx,hv,x3,hvl,oy])|(intro h))
  refine ⟨j+1,by omega, ?_,by omega⟩
  rw [E7,hq1,Dv,O9,Pa,Pb]
  refine Le.of ?_ ?_<;>simp [go_sem,simprocAttr,hb,hx,hv,x3,hvl,oy]
 have hb:decide ((j:Int)<(N1:Int))=false:=decide_eq_false (by omega)
 obtain rfl:j=N1:=by omega
 have Pc:j+1=g.n.toNat:=by omega
 rw [Pc]
 have lB:=fQ (p:=p) (k:=g.n.toNat)
 have r7:=p8 (g:=g) (p:=p) (k:=g.n.toNat)
 have Ns:=(o8 hrun (k:=g.n.toNat) (by omega)).1
 have Pd:Ev g p=⟨arr (LK g p g.n.toNat) g.es.length,(arr (RK g p (-1) g.n.toNat) g.es.length).map (k7 g p),gS p g.n.toNat++ [(s0:Int)],xb g p g.n.toNat++ [aq p j]⟩:=by unfold Ev;rw [hs0,Kl]
 have Pe:(arr (RK g p (-1) g.n.toNat) g.es.length).length=g.es.length:=cA
 rw [Pd]
 have hrf:∀f,k7 g p f=if f= -1 then (cK p g.n.toNat:Int) else f:=fun f=>rfl
 generalize arr (RK g p (-1) g.n.toNat) g.es.length=RA at Pe
 generalize arr (LK g p g.n.toNat) g.es.length=LA
 generalize gS p g.n.toNat=LO at lB
 generalize xb g p g.n.toNat=HI at r7
 generalize eV g p j=E1
 generalize kH g p j=G1
 generalize cK p g.n.toNat=cc at lB r7 Ns hrf
 repeat' (first|fail|((first|((with_reducible (first|apply oA|apply oB));exact rfl;intro K hK)|(refine hK _ ?_;clear hK K)|((with_reducible (first|apply oG|apply oH));iterate 3 exact rfl)|((with_reducible apply oI);(iterate 2 exact rfl);intro K hK)|(with_reducible (first|apply wI|apply wJ|apply wK)));try simp only [go_sem,simprocAttr,hb,lB])|fail|(with_reducible (first|apply oC|apply oJ|exact oK|apply wA|apply wB|apply wC hX hC|apply wD hX hC|apply wE hX hC af|apply wF hX hC af|apply wG|apply wH|apply And.intro))|((with_reducible refine oD ?_ ?_);first|fail|kernel_rfl)|((with_reducible (first|apply oE|apply oF));(iterate 3 exact rfl);all_goals (intro h;first|(exact absurd h (by decide))|((try simp only [go_sem,simprocAttr,hb,lB] at h);(try with_reducible intro K hK);simp only [go_sem,simprocAttr,hb,lB])))|((first|((with_reducible apply wL);exact rfl)|((with_reducible apply wM);exact rfl));all_goals (try ((with_reducible intro h);first|(exact absurd h (by decide))|(try simp only [go_sem,simprocAttr,hb,lB] at h))))|omega|((first|fail);try simp only [go_sem,simprocAttr,hb,lB])|(intro h))
 refine aj (fun i:Nat=>i≤RA.length) (fun i=>⟨[(4, .ptr 4 0),(12, .ptr 54 0),(17,eN cc),(175, .ref 63),(176,eN RA.length),(177,eN i)], [(54, .box [.d (sI E1), .d (sI G1), .ref 59, .ref 63, .ref 156, .ref 164]),(59, .own 3 1 (LA.map rI)),(63, .own 3 1 ((kI RA (k7 g p) i).map rI)),(156, .tip 3 1 ((LO++ [(s0:Int)]).map rI)),(164, .own 3 1 ((HI++ [aq p j]).map rI)),(4, .box [.nil 3, .nil 3, .nil 3, .nil 3])]⟩) (fun i=>RA.length - i) 0 (by omega) ?_ ?_
 ·refine Le.of ?_ ?_<;>simp [go_sem,simprocAttr,kI,rI]
 rintro i hi
 rcases Nat.lt_or_ge i RA.length with hil|IW
 ·have dI:decide ((i:Int)<(RA.length:Int))=true:=decide_eq_true (by omega)
  have hml:=CA (l:=RA) (f:=k7 g p) (j:=i)
  have hma:=y7 (f:=k7 g p) hil
  by_cases zy:RA.getD i 0= -1
  ·have au:decide ((kI RA (k7 g p) i).getD i 0= -1)=true:=decide_eq_true (by rw [hma,zy])
   have fc:=tI (f:=k7 g p) hil
   rw [hrf,if_pos zy] at fc
   generalize kI RA (k7 g p) i=M at hml au fc
   repeat' (first|fail|((first|((with_reducible (first|apply oA|apply oB));exact rfl;intro K hK)|(refine hK _ ?_;clear hK K)|((with_reducible (first|apply oG|apply oH));iterate 3 exact rfl)|((with_reducible apply oI);(iterate 2 exact rfl);intro K hK)|(with_reducible (first|apply wI|apply wJ|apply wK)));try simp only [go_sem,simprocAttr,dI,au,hml])|fail|(with_reducible (first|apply oC|apply oJ|exact oK|apply wA|apply wB|apply wC hX hC|apply wD hX hC|apply wE hX hC af|apply wF hX hC af|apply wG|apply wH|apply And.intro))|((with_reducible refine oD ?_ ?_);first|fail|kernel_rfl)|((with_reducible (first|apply oE|apply oF));(iterate 3 exact rfl);all_goals (intro h;first|(exact absurd h (by decide))|((try simp only [go_sem,simprocAttr,dI,au,hml] at h);(try with_reducible intro K hK);simp only [go_sem,simprocAttr,dI,au,hml])))|((first|((with_reducible apply wL);exact rfl)|((with_reducible apply wM);exact rfl));all_goals (try ((with_reducible intro h);first|(exact absurd h (by decide))|(try simp only [go_sem,simprocAttr,dI,au,hml] at h))))|omega|((first|fail);try simp only [go_sem,simprocAttr,dI,au,hml])|(intro h))
   refine ⟨i+1,by omega, ?_,by omega⟩
   rw [fc]
   refine Le.of ?_ ?_<;>simp [go_sem,simprocAttr,dI,au,hml,rI]
  ·have au:decide ((kI RA (k7 g p) i).getD i 0= -1)=false:=decide_eq_false (by rw [hma];exact zy)
   have fc:=Am (f:=k7 g p) hil (by rw [hrf,if_neg zy])
   generalize kI RA (k7 g p) i=M at hml au fc
   repeat' (first|fail|((first|((with_reducible (first|apply oA|apply oB));exact rfl;intro K hK)|(refine hK _ ?_;clear hK K)|((with_reducible (first|apply oG|apply oH));iterate 3 exact rfl)|((with_reducible apply oI);(iterate 2 exact rfl);intro K hK)|(with_reducible (first|apply wI|apply wJ|apply wK)));try simp only [go_sem,simprocAttr,dI,au,hml])|fail|(with_reducible (first|apply oC|apply oJ|exact oK|apply wA|apply wB|apply wC hX hC|apply wD hX hC|apply wE hX hC af|apply wF hX hC af|apply wG|apply wH|apply And.intro))|((with_reducible refine oD ?_ ?_);first|fail|kernel_rfl)|((with_reducible (first|apply oE|apply oF));(iterate 3 exact rfl);all_goals (intro h;first|(exact absurd h (by decide))|((try simp only [go_sem,simprocAttr,dI,au,hml] at h);(try with_reducible intro K hK);simp only [go_sem,simprocAttr,dI,au,hml])))|((first|((with_reducible apply wL);exact rfl)|((with_reducible apply wM);exact rfl));all_goals (try ((with_reducible intro h);first|(exact absurd h (by decide))|(try simp only [go_sem,simprocAttr,dI,au,hml] at h))))|omega|((first|fail);try simp only [go_sem,simprocAttr,dI,au,hml])|(intro h))
   refine ⟨i+1,by omega, ?_,by omega⟩
   rw [fc]
   refine Le.of ?_ ?_<;>simp [go_sem,simprocAttr,dI,au,hml,rI]
 have dI:decide ((i:Int)<(RA.length:Int))=false:=decide_eq_false (by omega)
 obtain rfl:i=RA.length:=by omega
 rw [CB]
 repeat' (first|fail|((first|((with_reducible (first|apply oA|apply oB));exact rfl;intro K hK)|(refine hK _ ?_;clear hK K)|((with_reducible (first|apply oG|apply oH));iterate 3 exact rfl)|((with_reducible apply oI);(iterate 2 exact rfl);intro K hK)|(with_reducible (first|apply wI|apply wJ|apply wK)));try simp only [go_sem,simprocAttr,dI,fH])|fail|(with_reducible (first|apply oC|apply oJ|exact oK|apply wA|apply wB|apply wC hX hC|apply wD hX hC|apply wE hX hC af|apply wF hX hC af|apply wG|apply wH|apply And.intro))|((with_reducible refine oD ?_ ?_);first|fail|kernel_rfl)|((with_reducible (first|apply oE|apply oF));(iterate 3 exact rfl);all_goals (intro h;first|(exact absurd h (by decide))|((try simp only [go_sem,simprocAttr,dI,fH] at h);(try with_reducible intro K hK);simp only [go_sem,simprocAttr,dI,fH])))|((first|((with_reducible apply wL);exact rfl)|((with_reducible apply wM);exact rfl));all_goals (try ((with_reducible intro h);first|(exact absurd h (by decide))|(try simp only [go_sem,simprocAttr,dI,fH] at h))))|omega|((first|fail);try simp only [go_sem,simprocAttr,dI,fH])|(intro h))
end Go.Ab
end
section
namespace Go.Ab
open Go.Proofs
set_option maxRecDepth 10000
set_option linter.unusedSectionVars false
section
variable (g:Gr) (p:Pl)
def cN:Nat:=cK p g.n.toNat
def Lf (e:Int):Int:=LK g p g.n.toNat e
def Rf (e:Int):Int:=RK g p (cN g p) g.n.toNat e
def DW:List Int:=gS p g.n.toNat++ [aq p 0]
def Gf:List Int:=xb g p g.n.toNat++ [aq p (g.n.toNat - 1)]
def Pf (f:Int):Int:=(DW g p).getD f.toNat 0
def Qb (f:Int):Int:=(Gf g p).getD f.toNat 0
end
section
variable {g:Gr} {p:Pl}
theorem DX:(DW g p).length=cN g p+1:=by simp [DW,fQ,cN]
variable (h:cj g p) (hI:nG g=true)
include h hI
theorem Js {a:Int} (ha:(iG g p).JY a):∃k u b v,k<g.n.toNat∧kA g a=aq p k∧bA p (aq p k)=u++a::b::v:=by
 obtain ⟨x,u,b,v,e⟩:=ha
 by_cases hx:o6 g x
 ·obtain ⟨k,hk,rfl⟩:=fI h.2.1 hx.1 hx.2
  rw [ij hx] at e
  exact ⟨k,u,b,v,hk,(mg h hk e).1,e⟩
 ·rw [nr hx] at e;cases u<;>cases e
theorem y8 {a:Int} (ha:(iG g p).JY a):∃f:Nat,1≤f∧f<cN g p∧∀r,RK g p r g.n.toNat a=f:=by
 obtain ⟨k,u,b,v,hk,_,e⟩:=Js h hI ha
 have hl:(bA p (aq p k)).length=u.length+(v.length+2):=by rw [e];simp
 have yB:cK p (k+1)=cK p k+((bA p (aq p k)).length - 1):=rfl
 obtain ⟨d,hd⟩:=Nat.exists_eq_add_of_le (show k+1≤g.n.toNat by omega)
 have hmo:=pY (p:=p) (k:=k+1) (d:=d)
 rw [← hd] at hmo
 have hp:0<cK p k:=ot
 have Gz:cN g p=cK p g.n.toNat:=rfl
 exact ⟨cK p k+u.length,by omega,by omega,fun r=>by rw [iq h hk e (by omega) (Nat.le_refl _)];omega⟩
theorem kJ:(iG g p).gO (Lf g p) (Rf g p) 0 (cN g p) (Pf g p):=by
 have F:=mh h hI (r:=cN g p) (.inr (Int.le_refl _))
 exact {F with
  new:=fun {x u a b v} e=>by
   obtain ⟨h1,h2,h3⟩:=F.new e
   obtain ⟨f,_,h5,h6⟩:=y8 h hI (a:=a) ⟨x,u,b,v,e⟩
   have h7:Rf g p a=f:=h6 _
   have h8:RK g p (cN g p) g.n.toNat a=f:=h6 _
   refine ⟨?_,h2,h3⟩
   rw [h8] at h1
   show (gS p g.n.toNat++ [aq p 0]).getD (Rf g p a).toNat 0=x
   rw [h7, ← h1,Int.toNat_natCast,ko (by rw [fQ];exact h5)]}
theorem Jt {e:Int} (he:0≤e∧e<g.es.length):k7 g p (RK g p (-1) g.n.toNat e)=Rf g p e:=by
 have F:=mh h hI (r:= -1) (.inl (by omega))
 have F':=mh h hI (r:=cN g p) (.inr (Int.le_refl _))
 rcases Cp (yT h hI) F F' (d:=_+1) (Nat.lt_succ_self _) (e:=e) he with ⟨h1,h2⟩|⟨a,h1,_,h2,h3⟩
 ·rw [h1];unfold k7 Rf;rw [if_pos rfl,h2];rfl
 ·obtain ⟨f,h4,_,h5⟩:=y8 h hI h1
  unfold k7 Rf
  rw [h2,h3,h5,h5,if_neg (by omega)]
theorem FI:Ev g p=⟨arr (Lf g p) g.es.length,arr (Rf g p) g.es.length,DW g p,Gf g p⟩:=by
 unfold Ev
 have:(arr (RK g p (-1) g.n.toNat) g.es.length).map (k7 g p)=arr (Rf g p) g.es.length:=by
  unfold arr
  rw [List.map_map]
  refine List.map_congr_left fun i hi=> ?_
  have:=List.mem_range.1 hi
  exact Jt h hI (e:=(i:Int)) (by omega)
 rw [this];rfl
theorem Ez {e:Int} (he:0≤e∧e<g.es.length):1≤Rf g p e∧Rf g p e≤cN g p:=by
 have hp:0<cK p g.n.toNat:=ot
 rcases Cp (yT h hI) (kJ h hI) (kJ h hI) (d:=_+1) (Nat.lt_succ_self _) (e:=e) he with ⟨h1,_⟩|⟨a,h1,_,h2,_⟩
 ·rw [h1];have:cN g p=cK p g.n.toNat:=rfl;omega
 ·obtain ⟨f,h3,h4,h5⟩:=y8 h hI h1
  have h5:Rf g p a=f:=h5 _
  omega
theorem EA {e:Int} (he:0≤e∧e<g.es.length):0≤Lf g p e∧Lf g p e<cN g p:=by
 have hp:0<cK p g.n.toNat:=ot
 rcases Et (yT h hI) (kJ h hI) (kJ h hI) (d:=_+1) (Nat.lt_succ_self _) (e:=e) he with ⟨h1,_⟩|⟨a,h1,h2,_⟩
 ·rw [h1];have:cN g p=cK p g.n.toNat:=rfl;omega
 ·obtain ⟨f,h3,h4,h5⟩:=y8 h hI h1
  have h5:Rf g p a=f:=h5 _
  omega
theorem EB:(cN g p:Int)=g.es.length - g.n+2:=by
 have hm:=aC h.1
 have hn:=aW hm
 have s8:bA p (aq p (g.n.toNat - 1))= []:=(dR h hI (aP h.2.1 (by omega))).2 rfl
 have key:∀k,k<g.n.toNat→(cK p k:Int)=1+((List.range k).flatMap fun j=>bA p (aq p j)).length - k:=by
  intro k
  induction k with
  |zero=>intro _;simp [cK]
  |succ k ih=>
   intro hk
   have hO:bA p (aq p k)≠ []:=fun h1=>by
    have:=(dR h hI (aP h.2.1 (show k<g.n.toNat by omega))).1 h1
    have:=dh h.2.1 (show k<g.n.toNat by omega) (by omega) this
    omega
   have:=List.length_pos_iff.2 hO
   have ih:=ih (by omega)
   have e1:((List.range (k+1)).flatMap fun j=>bA p (aq p j))=((List.range k).flatMap fun j=>bA p (aq p j))++bA p (aq p k):=by rw [List.range_succ,List.flatMap_append];simp
   rw [e1,List.length_append,cK]
   omega
 have hall:((List.range (g.n.toNat - 1)).flatMap fun j=>bA p (aq p j)).length=g.es.length:=by
  have cC:∀k,k≤g.n.toNat→((List.range k).flatMap fun j=>bA p (aq p j)).Nodup:=by
   intro k
   induction k with
   |zero=>intro _;simp
   |succ k ih=>
    intro hk
    rw [List.range_succ,List.flatMap_append,List.nodup_append]
    refine ⟨ih (by omega),by simpa using Ct h (by omega),fun a ha b hb e=> ?_⟩
    subst e
    obtain ⟨j,hj,hja⟩:=List.mem_flatMap.1 ha
    have hj:=List.mem_range.1 hj
    have hb:a∈bA p (aq p k):=by simpa using hb
    have t1:=(ir h (by omega) hja).2
    have t2:=(ir h (by omega) hb).2
    have:=dh h.2.1 (show j<g.n.toNat by omega) (by omega) (t1.symm.trans t2)
    omega
  have Ju:∀e:Int,0≤e→e<g.es.length→e∈((List.range (g.n.toNat - 1)).flatMap fun j=>bA p (aq p j)):=fun e h1 h2=>by
   have ht:=bw hm (i:=e.toNat) (by omega)
   obtain ⟨k,hk,e1⟩:=fI h.2.1 ht.1 ht.2
   have e1:aq p k=kA g e:=e1
   obtain ⟨u,v,e2⟩:=y5 h hk ⟨h1,h2⟩ e1.symm
   refine List.mem_flatMap.2 ⟨k,List.mem_range.2 ?_,by rw [e2];simp⟩
   refine Decidable.byContradiction fun hc=> ?_
   obtain rfl:k=g.n.toNat - 1:=by omega
   rw [s8] at e2;cases u<;>cases e2
  have h1:=nW Ju
  have h2:=eu (m:=(List.range g.es.length).map Int.ofNat) (cC (g.n.toNat - 1) (by omega)) fun e he=>by
   obtain ⟨j,hj,hja⟩:=List.mem_flatMap.1 he
   have hj:=List.mem_range.1 hj
   have:=(ir h (by omega) hja).1
   exact List.mem_map.2 ⟨e.toNat,List.mem_range.2 (by omega),by simp;omega⟩
  rw [List.length_map,List.length_range] at h2
  omega
 have h1:=key (g.n.toNat - 1) (by omega)
 rw [hall] at h1
 have h2:cN g p=cK p (g.n.toNat - 1):=by
  show cK p g.n.toNat=_
  rw [show g.n.toNat=(g.n.toNat - 1)+1 by omega,cK,show g.n.toNat - 1+1 - 1=g.n.toNat - 1 by omega,s8];rfl
 omega
theorem FJ (h0:0<g.es.length):2≤g.n:=by
 have hm:=aC h.1
 have ht:=bw hm (i:=0) h0
 have hh:=bL hm (i:=0) h0
 obtain ⟨k,hk,e⟩:=fI h.2.1 hh.1 hh.2
 obtain ⟨j,hj,_⟩:=rW h (e:=0) (by omega) hk e.symm
 omega
end
end Go.Ab
end
section
namespace Go.Ab
open Go.Proofs
set_option maxRecDepth 10000
def CC (q:Nat→Bool):Nat→Nat
 |0=>0
 |n+1=>CC q n ||| (if q n then 2 ^ n else 0)
theorem nw {q:Nat→Bool} {y:Nat} :∀ {n:Nat},(CC q n).testBit y=(decide (y<n)&&q y)
 |0=>by simp [CC]
 |n+1=>by
  rw [CC,Nat.testBit_or,nw]
  by_cases h:y=n
  ·subst h
   cases hq:q y<;>simp [Nat.testBit_two_pow_self]
  ·have h2:(if q n then 2 ^ n else 0).testBit y=false:=by
    split
    ·rw [Nat.testBit_two_pow];exact decide_eq_false fun e=>h e.symm
    ·simp
   rw [h2,Bool.or_false]
   congr 1
   rw [decide_eq_decide];omega
inductive AB (g:Gr) (both:Bool) (c:Nat→Bool) (x:Nat):Nat→Prop
 |refl:AB g both c x x
 |fwd {i:Nat} :i<g.es.length→c i=true→AB g both c x (tl g i).toNat→AB g both c x (hd g i).toNat
 |Nu {i:Nat} :i<g.es.length→c i=true→both=true→AB g both c x (hd g i).toNat→AB g both c x (tl g i).toNat
theorem AB.trans {g:Gr} {both:Bool} {c:Nat→Bool} {x y z:Nat} (h1:AB g both c x y) (h2:AB g both c y z):AB g both c x z:=by
 induction h2 with
 |refl=>exact h1
 |fwd a b _ ih=>exact .fwd a b ih
 |Nu a b d _ ih=>exact .Nu a b d ih
open Classical in
noncomputable def Mz (g:Gr) (both:Bool) (c:Nat→Bool) (x:Nat):Nat:=CC (fun y=>decide (AB g both c x y)) g.n.toNat
noncomputable def Pg (g:Gr) (both:Bool) (c:Nat→Bool):List Nat:=(List.range g.n.toNat).map (Mz g both c)
open Classical in
theorem J0 {g:Gr} {both:Bool} {c:Nat→Bool} {x y:Nat} :(Mz g both c x).testBit y=true↔y<g.n.toNat∧AB g both c x y:=by
 unfold Mz
 rw [nw]
 simp
def Jv (g:Gr) (both:Bool) (c:Nat→Bool) (a:List Nat):Nat→List Nat × Bool
 |0=>(a,false)
 |k+1=>
  let s:=Jv g both c a k
  if c k=true then
   let t:=s.1.getD (tl g k).toNat 0 ||| s.1.getD (hd g k).toNat 0
   let h:=if both=true then t else s.1.getD (hd g k).toNat 0
   ((s.1.set (tl g k).toNat t).set (hd g k).toNat h,s.2||(decide (t≠s.1.getD (tl g k).toNat 0)||decide (h≠s.1.getD (hd g k).toNat 0)))
  else s
structure Nv (g:Gr) (both:Bool) (c:Nat→Bool) (a:List Nat):Prop where
 len:a.length=g.n.toNat
 own:∀x,x<g.n.toNat→(a.getD x 0).testBit x=true
 snd:∀x y,x<g.n.toNat→(a.getD x 0).testBit y=true→y<g.n.toNat∧AB g both c x y
theorem Nv.lt {g:Gr} {both:Bool} {c:Nat→Bool} {a:List Nat} (h:Nv g both c a) (hn:g.n.toNat≤64) (x:Nat):a.getD x 0<18446744073709551616:=by
 by_cases hx:x<g.n.toNat
 ·have:a.getD x 0<2 ^ 64:=Nat.lt_pow_two_of_testBit _ fun i hi=>by
   cases hb:(a.getD x 0).testBit i with
   |false=>rfl
   |true=>have:=(h.snd x i hx hb).1;omega
  simpa using this
 ·rw [List.getD_eq_getElem?_getD,List.getElem?_eq_none (by rw [h.len];omega)];simp
def Ph (a:List Nat):Nat:=a.foldr (· + ·) 0
end Go.Ab
end
section
namespace Go.Ab
open Go.Proofs
attribute [local congr] ACall.congr
set_option maxRecDepth 20000
set_option maxHeartbeats 8000000
def rU (n:Nat):List D:= [.sc (.int .u64 (n:Int))]
def eU (n:Nat):AV:= .d (.sc (.int .u64 (n:Int)))
def sU (l:List Nat):D:= .sl 1 (l.map rU)
theorem getD_rU (ps:List Nat) (i:Nat):(ps.map rU).getD i [.sc (.int .u64 0)]= [.sc (.int .u64 ((ps.getD i 0:Nat):Int))]:=by
 rw [List.getD_eq_getElem?_getD,List.getElem?_map,List.getD_eq_getElem?_getD]
 cases ps[i]? <;>rfl
attribute [go_sem] eU sU getD_rU InU
end Go.Ab
end
section
namespace Go.Ab
open Go.Proofs
attribute [local congr] ACall.congr
set_option maxRecDepth 20000
set_option maxHeartbeats 8000000
def MA (k:Nat):List Nat:=(List.range k).map fun x=>2 ^ x
def Nw (g:Gr):List Nat:=if aO g=true then MA g.n.toNat else []
theorem Er {l:List Nat} :∀r∈l.map rU,∀x∈r,∃v,x=D.sc v:=by
 intro r hr x hx
 obtain ⟨y,_,rfl⟩:=List.mem_map.1 hr
 simp only [rU,List.mem_singleton] at hx
 exact ⟨_,hx⟩
noncomputable def Qc (g:Gr):List Nat:=if aO g=true then Pg g false (fun _=>true) else []
end Go.Ab
end
section
namespace Go.Ab
open Go.Proofs
set_option maxRecDepth 10000
set_option linter.unusedSectionVars false
def Pj (s:Nat) (x:Int):Bool:=decide (0≤x)&&decide (x<64)&&s.testBit x.toNat
section
variable {P:PS} (h:P.Ok) {L R:Int→Int} {f0 f1:Int} {low:Int→Int} (F:P.gO L R f0 f1 low)
def DY (P:PS) (R:Int→Int) (f:Int):Nat→Nat
 |0=>0
 |j+1=>if R (P.sh j)=f then j+1 else DY P R f j
theorem y9 {i:Nat} {f:Int} (hf:R (P.sh i)=f):∀ {m:Nat},i<m→i+1≤DY P R f m
 |0,h=>by omega
 |m+1,h=>by
  unfold DY
  split
  ·omega
  ·rename_i hne
   by_cases e:i=m
   ·subst e;exact absurd hf hne
   ·exact y9 hf (by omega)
theorem CD {i:Nat} {f:Int} :∀ {m:Nat},(∀j,j<m→R (P.sh j)=f→j<i)→DY P R f m≤i
 |0,_=>Nat.zero_le _
 |m+1,hj=>by
  unfold DY
  split
  ·rename_i e;exact hj m (by omega) e
  ·exact CD fun j h1 h2=>hj j (by omega) h2
include h F
theorem DZ {e:Int} (he:P.E e):DY P R (L e) P.m<DY P R (R e) P.m:=by
 obtain ⟨i,hi,rfl⟩:=kS h he
 have h1:=y9 (P:=P) (R:=R) (i:=i) (f:=R (P.sh i)) rfl hi
 have h2:DY P R (L (P.sh i)) P.m≤i:=CD fun j hj hR=>zV h F hj hi (by rw [hR];exact .refl)
 omega
end
section
variable (g:Gr) (p:Pl)
def oz:Gr:=⟨(cN g p:Int)+1,(List.range g.es.length).map fun i:Nat=>(Lf g p i,Rf g p i)⟩
end
section
variable {g:Gr} {p:Pl}
theorem uW:(oz g p).es.length=g.es.length:=by simp [oz]
theorem FK {i:Nat} (hi:i<g.es.length):tl (oz g p) i=Lf g p i:=by
 show ((oz g p).es.getD i (0,0)).1=_
 simp [oz,List.getD_eq_getElem?_getD,List.getElem?_range hi]
theorem FL {i:Nat} (hi:i<g.es.length):hd (oz g p) i=Rf g p i:=by
 show ((oz g p).es.getD i (0,0)).2=_
 simp [oz,List.getD_eq_getElem?_getD,List.getElem?_range hi]
variable (h:cj g p) (hI:nG g=true)
include h hI
theorem D2 (h0:0<g.es.length) (hl:g.es.length≤60):aO (oz g p)=true:=by
 have he:=EB h hI
 have hn:=FJ h hI h0
 unfold aO
 have hn:(oz g p).n=(cN g p:Int)+1:=rfl
 rw [uW,hn]
 simp only [Bool.and_eq_true,decide_eq_true_eq,Bool.not_eq_true',List.any_eq_false]
 refine ⟨⟨⟨by omega,by omega⟩,by omega⟩,fun e hm=> ?_⟩
 obtain ⟨i,hi,rfl⟩:=List.mem_map.1 hm
 have hi:=List.mem_range.1 hi
 have h1:=EA h hI (e:=(i:Int)) (by omega)
 have h2:=Ez h hI (e:=(i:Int)) (by omega)
 simp only [mL,sw,hn,Bool.or_eq_true,decide_eq_true_eq]
 omega
theorem CE (hm:aO (oz g p)=true):mQ (oz g p)=true:=(pM hm).2 ⟨fun f=>DY (iG g p) (Rf g p) f (iG g p).m,fun i hi=>by
 rw [uW] at hi
 rw [FK hi,FL hi]
 exact DZ (yT h hI) (kJ h hI) (e:=(i:Int)) ⟨by omega,by show (i:Int)<(g.es.length:Int);omega⟩⟩
end
end Go.Ab
end
section
namespace Go.Ab
open Go.Proofs
attribute [local congr] ACall.congr
set_option maxRecDepth 10000
set_option maxHeartbeats 16000000
end Go.Ab
end
section
namespace Go.Ab
open Go.Proofs
attribute [local congr] ACall.congr
set_option maxRecDepth 20000
set_option maxHeartbeats 8000000
theorem wU (g:Gr) (hl:g.es.length≤1000) (p:Pl) (hp:wu p) (b:Bool) (hr:b=true↔(bH g).1=0∧bN g p):
 Spec Tryz.prog 17 (Args [eG g,ePl p]) [] (.tup [fH (Ew b g p).1,eN (Ew b g p).2]) []:=by
 have hO:=lD g hl p hp b hr
 have FG:=rR g hl
 by_cases h0:(cM b g p).2.1=0
 rotate_left
 ·have hK:Ew b g p=(p9,1):=if_neg fun h=>h0 h.1.1
  have hb0:decide ((cM b g p).2.1=0)=false:=decide_eq_false h0
  rw [hK]
  (refine Spec.intro (C:=T.cfg [] []) (rs:= [.c 4 32, .t 5]) (T.ak _ _) Tryz.func17 rfl rfl Tryz.ntmps17 Tryz.results17 (by simp [AObj.isNest]) (by simp [AObj.isNest]) (by kernel_rfl) ?_;intro X hX hP hC aK aL vals hA;refine ⟨_,by simp,hA, ?_⟩;have af:X.P.follows .mixedOrders=true:=(by rw [hP];exact T.mixed);clear aK aL)
  repeat' (first|fail|((first|((with_reducible (first|apply oA|apply oB));exact rfl;intro K hK)|(refine hK _ ?_;clear hK K)|((with_reducible (first|apply oG|apply oH));iterate 3 exact rfl)|((with_reducible apply oI);(iterate 2 exact rfl);intro K hK)|(with_reducible (first|apply wI|apply wJ|apply wK)));try simp only [go_sem,simprocAttr,hb0,fH,p9,List.map_nil])|fail|(with_reducible (first|apply oC|apply oJ|exact oK|apply wA|apply wB|apply wC hX hC|apply wD hX hC|apply wE hX hC af|apply wF hX hC af|apply wG|apply wH|apply And.intro))|((with_reducible refine oD ?_ ?_);first|fail|kernel_rfl)|((with_reducible (first|apply oE|apply oF));(iterate 3 exact rfl);all_goals (intro h;first|(exact absurd h (by decide))|((try simp only [go_sem,simprocAttr,hb0,fH,p9,List.map_nil] at h);(try with_reducible intro K hK);simp only [go_sem,simprocAttr,hb0,fH,p9,List.map_nil])))|((first|((with_reducible apply wL);exact rfl)|((with_reducible apply wM);exact rfl));all_goals (try ((with_reducible intro h);first|(exact absurd h (by decide))|(try simp only [go_sem,simprocAttr,hb0,fH,p9,List.map_nil] at h))))|omega|((first|first|refine aa hX hC hP (hO) rfl rfl rfl (by simp only [go_sem,simprocAttr,hb0,fH,p9,List.map_nil]) rfl ?_);try simp only [go_sem,simprocAttr,hb0,fH,p9,List.map_nil])|(intro h))
 obtain ⟨hrun,hR⟩:=tr hr h0
 cases hI:nG g with
 |false=>
  have hK:Ew b g p=(p9,1):=if_neg fun h=>by rw [hI] at h;cases h.1.2
  rw [hR] at hO
  simp only at hO
  rw [hI] at FG
  rw [hK]
  (refine Spec.intro (C:=T.cfg [] []) (rs:= [.c 4 32, .t 5]) (T.ak _ _) Tryz.func17 rfl rfl Tryz.ntmps17 Tryz.results17 (by simp [AObj.isNest]) (by simp [AObj.isNest]) (by kernel_rfl) ?_;intro X hX hP hC aK aL vals hA;refine ⟨_,by simp,hA, ?_⟩;have af:X.P.follows .mixedOrders=true:=(by rw [hP];exact T.mixed);clear aK aL)
  repeat' (first|fail|((first|((with_reducible (first|apply oA|apply oB));exact rfl;intro K hK)|(refine hK _ ?_;clear hK K)|((with_reducible (first|apply oG|apply oH));iterate 3 exact rfl)|((with_reducible apply oI);(iterate 2 exact rfl);intro K hK)|(with_reducible (first|apply wI|apply wJ|apply wK)));try simp only [go_sem,simprocAttr,fH,p9,List.map_nil])|fail|(with_reducible (first|apply oC|apply oJ|exact oK|apply wA|apply wB|apply wC hX hC|apply wD hX hC|apply wE hX hC af|apply wF hX hC af|apply wG|apply wH|apply And.intro))|((with_reducible refine oD ?_ ?_);first|fail|kernel_rfl)|((with_reducible (first|apply oE|apply oF));(iterate 3 exact rfl);all_goals (intro h;first|(exact absurd h (by decide))|((try simp only [go_sem,simprocAttr,fH,p9,List.map_nil] at h);(try with_reducible intro K hK);simp only [go_sem,simprocAttr,fH,p9,List.map_nil])))|((first|((with_reducible apply wL);exact rfl)|((with_reducible apply wM);exact rfl));all_goals (try ((with_reducible intro h);first|(exact absurd h (by decide))|(try simp only [go_sem,simprocAttr,fH,p9,List.map_nil] at h))))|omega|((first|first|refine aa hX hC hP (hO) rfl rfl rfl (by simp only [go_sem,simprocAttr,fH,p9,List.map_nil]) rfl ?_|refine aa hX hC hP (FG) rfl rfl rfl (by simp only [go_sem,simprocAttr,fH,p9,List.map_nil]) rfl ?_);try simp only [go_sem,simprocAttr,fH,p9,List.map_nil])|(intro h))
 |true=>
  by_cases hm:0<g.es.length
  ·have hK:Ew b g p=(Ev g p,0):=if_pos ⟨⟨h0,hI⟩,hm⟩
   rw [hK]
   exact Ap g p hp hrun hI hm b hr
  ·have hK:Ew b g p=(p9,1):=if_neg fun h=>hm h.2
   have au:decide ((g.es.length:Int)=0)=true:=decide_eq_true (by omega)
   rw [hR] at hO
   simp only at hO
   rw [hI] at FG
   rw [hK]
   (refine Spec.intro (C:=T.cfg [] []) (rs:= [.c 4 32, .t 5]) (T.ak _ _) Tryz.func17 rfl rfl Tryz.ntmps17 Tryz.results17 (by simp [AObj.isNest]) (by simp [AObj.isNest]) (by kernel_rfl) ?_;intro X hX hP hC aK aL vals hA;refine ⟨_,by simp,hA, ?_⟩;have af:X.P.follows .mixedOrders=true:=(by rw [hP];exact T.mixed);clear aK aL)
   repeat' (first|fail|((first|((with_reducible (first|apply oA|apply oB));exact rfl;intro K hK)|(refine hK _ ?_;clear hK K)|((with_reducible (first|apply oG|apply oH));iterate 3 exact rfl)|((with_reducible apply oI);(iterate 2 exact rfl);intro K hK)|(with_reducible (first|apply wI|apply wJ|apply wK)));try simp only [go_sem,simprocAttr,au,fH,p9,List.map_nil])|fail|(with_reducible (first|apply oC|apply oJ|exact oK|apply wA|apply wB|apply wC hX hC|apply wD hX hC|apply wE hX hC af|apply wF hX hC af|apply wG|apply wH|apply And.intro))|((with_reducible refine oD ?_ ?_);first|fail|kernel_rfl)|((with_reducible (first|apply oE|apply oF));(iterate 3 exact rfl);all_goals (intro h;first|(exact absurd h (by decide))|((try simp only [go_sem,simprocAttr,au,fH,p9,List.map_nil] at h);(try with_reducible intro K hK);simp only [go_sem,simprocAttr,au,fH,p9,List.map_nil])))|((first|((with_reducible apply wL);exact rfl)|((with_reducible apply wM);exact rfl));all_goals (try ((with_reducible intro h);first|(exact absurd h (by decide))|(try simp only [go_sem,simprocAttr,au,fH,p9,List.map_nil] at h))))|omega|((first|first|refine aa hX hC hP (hO) rfl rfl rfl (by simp only [go_sem,simprocAttr,au,fH,p9,List.map_nil]) rfl ?_|refine aa hX hC hP (FG) rfl rfl rfl (by simp only [go_sem,simprocAttr,au,fH,p9,List.map_nil]) rfl ?_);try simp only [go_sem,simprocAttr,au,fH,p9,List.map_nil])|(intro h))
end Go.Ab
end
section
namespace Go.Ab
open Go.Proofs
attribute [local congr] ACall.congr
set_option maxRecDepth 20000
set_option maxHeartbeats 8000000
def CF (f:Fc) (k:Nat):List Edge:=(List.range k).map fun i:Nat=>(f.L.getD i 0,f.R.getD i 0)
theorem D3 {f:Fc} {k:Nat} :(CF f k).length=k:=by simp [CF]
theorem CG {f:Fc} {k:Nat} :(CF f (k+1)).map rE=(CF f k).map rE++ [rE (f.L.getD k 0,f.R.getD k 0)]:=by simp [CF,List.range_succ]
theorem wV (f:Fc) (h1:f.L.length≤100000) (h2:f.R.length=f.L.length):Spec Tryz.prog 23 (Args [fH f]) [] (eG ⟨f.lo.length,CF f f.L.length⟩) []:=by
 have hmin:min (f.L.length:Int) (f.R.length:Int)=f.L.length:=by rw [h2];simp
 (refine Spec.intro (C:=T.cfg [] []) (rs:= [.c 2 24]) (T.ak _ _) Tryz.func23 rfl rfl Tryz.ntmps23 Tryz.results23 (by simp [AObj.isNest]) (by simp [AObj.isNest]) (by kernel_rfl) ?_;intro X hX hP hC aK aL vals hA;refine ⟨_,by simp,hA, ?_⟩;have af:X.P.follows .mixedOrders=true:=(by rw [hP];exact T.mixed);clear aK aL)
 repeat' (first|fail|((first|((with_reducible (first|apply oA|apply oB));exact rfl;intro K hK)|(refine hK _ ?_;clear hK K)|((with_reducible (first|apply oG|apply oH));iterate 3 exact rfl)|((with_reducible apply oI);(iterate 2 exact rfl);intro K hK)|(with_reducible (first|apply wI|apply wJ|apply wK)));try simp only [go_sem,simprocAttr,fH,hmin])|(show cV _ (.seq (.region 2 _ _) _) _ _;(refine cW hX 3 1 200 (.tip 58 2 []) rfl rfl rfl (by simp only [go_sem,simprocAttr,fH,hmin]) (by decide) (by simp [go_sem,simprocAttr,fH,hmin]) ⟨58,2,by decide, .inr rfl⟩ ?_;simp only [LA.app,ASt.put,ASt.kill,subT,rmk,putM,rml,kl,AV.sub,AV.subs,AObj.sub,List.set_cons_zero,List.set_cons_succ,go_sem,simprocAttr,fH,hmin]))|(with_reducible (first|apply oC|apply oJ|exact oK|apply wA|apply wB|apply wC hX hC|apply wD hX hC|apply wE hX hC af|apply wF hX hC af|apply wG|apply wH|apply And.intro))|((with_reducible refine oD ?_ ?_);first|fail|kernel_rfl)|((with_reducible (first|apply oE|apply oF));(iterate 3 exact rfl);all_goals (intro h;first|(exact absurd h (by decide))|((try simp only [go_sem,simprocAttr,fH,hmin] at h);(try with_reducible intro K hK);simp only [go_sem,simprocAttr,fH,hmin])))|((first|((with_reducible apply wL);exact rfl)|((with_reducible apply wM);exact rfl));all_goals (try ((with_reducible intro h);first|(exact absurd h (by decide))|(try simp only [go_sem,simprocAttr,fH,hmin] at h))))|omega|((first|fail);try simp only [go_sem,simprocAttr,fH,hmin])|(intro h))
 refine aj (fun k:Nat=>k≤f.L.length) (fun k=>⟨[(1, .ptr 1 0),(2, .ptr 2 0),(3, .ptr 3 0),(15,eN f.L.length),(16,eN k)], [(1, .box [.d (sI f.L), .d (sI f.R), .d (sI f.lo), .d (sI f.hi)]),(2, .box [eN 0, .nil 58]),(3, .box [eN f.lo.length, .ref 200]),(200, .tip 58 2 ((CF f k).map rE))]⟩) (fun k=>f.L.length - k) 0 (by omega) ?_ ?_
 ·refine Le.of ?_ ?_<;>simp [go_sem,simprocAttr,fH,hmin,CF]
 rintro k hk
 rcases Nat.lt_or_ge k f.L.length with hlt|hge
 ·have hb:decide ((k:Int)<(f.L.length:Int))=true:=decide_eq_true (by omega)
  have fc:=CG (f:=f) (k:=k)
  have uo:=D3 (f:=f) (k:=k)
  generalize CF f k=G at fc uo
  repeat' (first|fail|((first|((with_reducible (first|apply oA|apply oB));exact rfl;intro K hK)|(refine hK _ ?_;clear hK K)|((with_reducible (first|apply oG|apply oH));iterate 3 exact rfl)|((with_reducible apply oI);(iterate 2 exact rfl);intro K hK)|(with_reducible (first|apply wI|apply wJ|apply wK)));try simp only [go_sem,simprocAttr,hb,uo])|(show cV _ (.region 6 _ _) _ _;(refine bU hX 3 1 33 200 rfl rfl rfl (by first|exact .inl rfl|exact .inr rfl) (by decide) (by decide) ?_;simp only [LA.app,ASt.put,ASt.kill,subT,rmk,putM,rml,kl,AV.sub,AV.subs,AObj.sub,List.set_cons_zero,List.set_cons_succ,go_sem,simprocAttr,hb,uo]))|(with_reducible (first|apply oC|apply oJ|exact oK|apply wA|apply wB|apply wC hX hC|apply wD hX hC|apply wE hX hC af|apply wF hX hC af|apply wG|apply wH|apply And.intro))|((with_reducible refine oD ?_ ?_);first|fail|kernel_rfl)|((with_reducible (first|apply oE|apply oF));(iterate 3 exact rfl);all_goals (intro h;first|(exact absurd h (by decide))|((try simp only [go_sem,simprocAttr,hb,uo] at h);(try with_reducible intro K hK);simp only [go_sem,simprocAttr,hb,uo])))|((first|((with_reducible apply wL);exact rfl)|((with_reducible apply wM);exact rfl));all_goals (try ((with_reducible intro h);first|(exact absurd h (by decide))|(try simp only [go_sem,simprocAttr,hb,uo] at h))))|omega|((first|fail);try simp only [go_sem,simprocAttr,hb,uo])|(intro h))
  refine ⟨k+1,by omega, ?_,by omega⟩
  rw [fc]
  refine Le.of ?_ ?_<;>simp [go_sem,simprocAttr,hb,uo,rE]
 ·have hb:decide ((k:Int)<(f.L.length:Int))=false:=decide_eq_false (by omega)
  obtain rfl:k=f.L.length:=by omega
  repeat' (first|fail|((first|((with_reducible (first|apply oA|apply oB));exact rfl;intro K hK)|(refine hK _ ?_;clear hK K)|((with_reducible (first|apply oG|apply oH));iterate 3 exact rfl)|((with_reducible apply oI);(iterate 2 exact rfl);intro K hK)|(with_reducible (first|apply wI|apply wJ|apply wK)));try simp only [go_sem,simprocAttr,hb])|fail|(with_reducible (first|apply oC|apply oJ|exact oK|apply wA|apply wB|apply wC hX hC|apply wD hX hC|apply wE hX hC af|apply wF hX hC af|apply wG|apply wH|apply And.intro))|((with_reducible refine oD ?_ ?_);first|fail|kernel_rfl)|((with_reducible (first|apply oE|apply oF));(iterate 3 exact rfl);all_goals (intro h;first|(exact absurd h (by decide))|((try simp only [go_sem,simprocAttr,hb] at h);(try with_reducible intro K hK);simp only [go_sem,simprocAttr,hb])))|((first|((with_reducible apply wL);exact rfl)|((with_reducible apply wM);exact rfl));all_goals (try ((with_reducible intro h);first|(exact absurd h (by decide))|(try simp only [go_sem,simprocAttr,hb] at h))))|omega|((first|fail);try simp only [go_sem,simprocAttr,hb])|(intro h))
def Pk (b:Bool) (g:Gr) (p:Pl):Bool:= !Ci g p&&nG g&&decide ((cM b g p).2.1=0)&&decide (0<(g.es.length:Int))&&decide ((g.es.length:Int)≤60)
theorem FM {b:Bool} {g:Gr} {p:Pl} (hr:b=true↔(bH g).1=0∧bN g p) (hrun:cj g p) (hI:nG g=true) (h0:0<g.es.length):Ew b g p=(⟨arr (Lf g p) g.es.length,arr (Rf g p) g.es.length,DW g p,Gf g p⟩,0):=by
 have:Ew b g p=(Ev g p,0):=if_pos ⟨⟨by rw [r9 hr hrun],hI⟩,h0⟩
 rw [this,FI hrun hI]
theorem D4 {g:Gr} {p:Pl} :(⟨((DW g p).length:Nat),CF ⟨arr (Lf g p) g.es.length,arr (Rf g p) g.es.length,DW g p,Gf g p⟩ (arr (Lf g p) g.es.length).length⟩:Gr)=oz g p:=by
 unfold oz CF
 rw [DX,cA]
 congr 1
 refine List.map_congr_left fun i hi=> ?_
 have hi:=List.mem_range.1 hi
 rw [ox hi,ox hi]
def D5:Gr:=⟨4, [(0,1),(1,3),(0,2),(2,3)]⟩
def Gg:Pl:=⟨[0,1,2,3], [[0,2], [1], [3], []]⟩
theorem Jw:(true=true)↔(bH D5).1=0∧bN D5 Gg:=⟨fun _=>⟨by decide,⟨rfl,by decide,by decide⟩⟩,fun _=>rfl⟩
end Go.Ab
end
section
namespace Go.Ab
open Go.Proofs
attribute [local congr] ACall.congr
set_option maxRecDepth 20000
set_option maxHeartbeats 16000000
structure Br where
 y:List Int
 fr:List Int
 to:List Int
 x:List Int
def aF (b:Br):AV:= .agg [.d (sI b.y), .d (sI b.fr), .d (sI b.to), .d (sI b.x)]
section
variable (g:Gr) (p:Pl)
def C1 (f:Int):Int:=(wN (oz g p)).getD f.toNat 0
def EC (e:Int):Int:=C1 g p (Lf g p e)
def CH (l:List Int):Int:=if l= [] then 0 else C1 g p (Lf g p (l.getD 0 0))
def toV (l:List Int):Int:=(if l= [] then C1 g p (cN g p) else C1 g p (Rf g p (l.getD (l.length - 1) 0))) - 1
def MB:Br:=⟨wN g,p.outs.map (CH g p),p.outs.map (toV g p),arr (EC g p) g.es.length⟩
end
theorem CI {f:Int→Int} {k:Nat} :(arr f (k+1)).map rI=(arr f k).map rI++ [rI (f k)]:=by simp [arr,List.range_succ]
theorem D6 {g:Gr} (hc:(bH g).1=0):mQ g=true:=by
 rcases Ai (aC hc) with h|h|h|h|h
 ·rw [h.1] at hc;cases hc
 ·rw [h.1] at hc;cases hc
 ·rw [h.1] at hc;cases hc
 ·rw [h.1] at hc;cases hc
 ·exact h.2.2
theorem Aq (g:Gr) (p:Pl) (hB:Ci g p=false) (hrun:cj g p) (hI:nG g=true) (h0:0<g.es.length) (Pm:g.es.length≤60) (b:Bool) (hr:b=true↔(bH g).1=0∧bN g p):
 Spec Tryz.prog 36 (Args [eG g,ePl p]) [] (.tup [aF (MB g p),eN 0]) []:=by
 have hm:=aC hrun.1
 have hn:=aW hm
 have hm2:=D2 hrun hI h0 Pm
 have hD:=wU g (by omega) p (wv hB) b hr
 rw [FM hr hrun hI h0] at hD
 simp only at hD
 have Nx:=wV ⟨arr (Lf g p) g.es.length,arr (Rf g p) g.es.length,DW g p,Gf g p⟩ (by simp only [cA];omega) (by simp only [cA])
 simp only [D4] at Nx
 have Pn:=o7 g hm (D6 hrun.1)
 have Po:=o7 (oz g p) hm2 (CE hrun hI hm2)
 obtain ⟨k1,k2,k3,k4⟩:=FC hm2 (CE hrun hI hm2)
 have Pp:(oz g p).n.toNat=cN g p+1:=by show ((cN g p:Int)+1).toNat=_;omega
 rw [Pp] at k1
 have hbd:∀v:Nat,(wN (oz g p)).getD v 0≤100000:=fun v=>by
  have:=(pX (g:=oz g p) (k:=(bI (oz g p)).length) v).2
  have h1:=yE hm2
  rw [uW] at this
  have h2:(bI (oz g p)).length*g.es.length≤64*128:=Nat.mul_le_mul h1 (by omega)
  have h3:wN (oz g p)=oo (oz g p) (bI (oz g p)).length:=rfl
  rw [h3];omega
 have Qd:=EB hrun hI
 have hac:∀f:Nat,C1 g p f=(wN (oz g p)).getD f 0:=fun f=>by unfold C1;rw [Int.toNat_natCast]
 have a1:=fun (i:Nat) (hi:i<g.es.length)=>ox (f:=Lf g p) hi
 have a2:=fun (i:Nat) (hi:i<g.es.length)=>ox (f:=Rf g p) hi
 have c1:(arr (Lf g p) g.es.length).length=g.es.length:=cA
 have c2:(arr (Rf g p) g.es.length).length=g.es.length:=cA
 have Ny:=fun (i:Nat) (hi:i<g.es.length)=>EA hrun hI (e:=(i:Int)) (by omega)
 have Gh:=fun (i:Nat) (hi:i<g.es.length)=>Ez hrun hI (e:=(i:Int)) (by omega)
 have Pq:∀k,k<g.es.length→EC g p k=C1 g p ((arr (Lf g p) g.es.length).getD k 0):=fun k hk=>by rw [a1 k hk];rfl
 have hout:∀x,x<p.outs.length→∀e∈p.outs.getD x [],0≤e∧e<g.es.length:=fun x hx e he=>by
  have zE:x<g.n.toNat:=by have:=hrun.2.1.1;omega
  have:=(hrun.2.1.2.2 x zE).mem_iff.1 he
  exact (bR.1 this).1
 have Aw:=wv hB
 have MC:=(uO hB).2.2.2
 have Qe:=(uO hB).2.2.1
 have Pr:MB g p=⟨wN g,p.outs.map (CH g p),p.outs.map (toV g p),arr (EC g p) g.es.length⟩:=rfl
 rw [Pr]
 have hfr:∀l,CH g p l=if l= [] then 0 else C1 g p (Lf g p (l.getD 0 0)):=fun _=>rfl
 have hto:∀l,toV g p l=(if l= [] then C1 g p (cN g p) else C1 g p (Rf g p (l.getD (l.length - 1) 0))) - 1:=fun _=>rfl
 generalize Qf:arr (Lf g p) g.es.length=LL at*
 generalize Qg:arr (Rf g p) g.es.length=RR at*
 generalize DW g p=lo at*
 generalize Gf g p=hi at*
 generalize Pt:wN (oz g p)=ac at*
 generalize oz g p=G2 at*
 generalize wN g=yl at*
 (refine Spec.intro (C:=T.cfg [] []) (rs:= [.c 4 64, .t 5]) (T.ak _ _) Tryz.func36 rfl rfl Tryz.ntmps36 Tryz.results36 (by simp [AObj.isNest]) (by simp [AObj.isNest]) (by kernel_rfl) ?_;intro X hX hP hC aK aL vals hA;refine ⟨_,by simp,hA, ?_⟩;have af:X.P.follows .mixedOrders=true:=(by rw [hP];exact T.mixed);clear aK aL)
 repeat' (first|fail|((first|((with_reducible (first|apply oA|apply oB));exact rfl;intro K hK)|(refine hK _ ?_;clear hK K)|((with_reducible (first|apply oG|apply oH));iterate 3 exact rfl)|((with_reducible apply oI);(iterate 2 exact rfl);intro K hK)|(with_reducible (first|apply wI|apply wJ|apply wK)));try simp only [go_sem,simprocAttr,fH,aF,c1])|fail|(with_reducible (first|apply oC|apply oJ|exact oK|apply wA|apply wB|apply wC hX hC|apply wD hX hC|apply wE hX hC af|apply wF hX hC af|apply wG|apply wH|apply And.intro))|((with_reducible refine oD ?_ ?_);first|fail|kernel_rfl)|((with_reducible (first|apply oE|apply oF));(iterate 3 exact rfl);all_goals (intro h;first|(exact absurd h (by decide))|((try simp only [go_sem,simprocAttr,fH,aF,c1] at h);(try with_reducible intro K hK);simp only [go_sem,simprocAttr,fH,aF,c1])))|((first|((with_reducible apply wL);exact rfl)|((with_reducible apply wM);exact rfl));all_goals (try ((with_reducible intro h);first|(exact absurd h (by decide))|(try simp only [go_sem,simprocAttr,fH,aF,c1] at h))))|omega|((first|first|refine aa hX hC hP (hD) rfl rfl rfl (by simp only [go_sem,simprocAttr,fH,aF,c1]) rfl ?_|refine aa hX hC hP (Nx) rfl rfl rfl (by simp only [go_sem,simprocAttr,fH,aF,c1]) rfl ?_|refine aa hX hC hP (Pn) rfl rfl rfl (by simp only [go_sem,simprocAttr,fH,aF,c1]) rfl ?_|refine aa hX hC hP (Po) rfl rfl rfl (by simp only [go_sem,simprocAttr,fH,aF,c1]) rfl ?_);try simp only [go_sem,simprocAttr,fH,aF,c1])|(intro h))
 (refine cW hX 10 3 200 (.tip 3 1 []) rfl rfl rfl (by simp only [go_sem,simprocAttr,fH,aF,c1]) (by decide) (by simp [go_sem,simprocAttr,fH,aF,c1]) ⟨3,1,by decide, .inr rfl⟩ ?_;simp only [LA.app,ASt.put,ASt.kill,subT,rmk,putM,rml,kl,AV.sub,AV.subs,AObj.sub,List.set_cons_zero,List.set_cons_succ,go_sem,simprocAttr,fH,aF,c1])
 (refine cW hX 10 1 201 (.tip 3 1 []) rfl rfl rfl (by simp only [go_sem,simprocAttr,fH,aF,c1]) (by decide) (by simp [go_sem,simprocAttr,fH,aF,c1]) ⟨3,1,by decide, .inr rfl⟩ ?_;simp only [LA.app,ASt.put,ASt.kill,subT,rmk,putM,rml,kl,AV.sub,AV.subs,AObj.sub,List.set_cons_zero,List.set_cons_succ,go_sem,simprocAttr,fH,aF,c1])
 (refine cW hX 10 2 202 (.tip 3 1 []) rfl rfl rfl (by simp only [go_sem,simprocAttr,fH,aF,c1]) (by decide) (by simp [go_sem,simprocAttr,fH,aF,c1]) ⟨3,1,by decide, .inr rfl⟩ ?_;simp only [LA.app,ASt.put,ASt.kill,subT,rmk,putM,rml,kl,AV.sub,AV.subs,AObj.sub,List.set_cons_zero,List.set_cons_succ,go_sem,simprocAttr,fH,aF,c1])
 refine aj (fun k:Nat=>k≤g.es.length) (fun k=>⟨[(2, .ptr 2 0),(3, .ptr 3 0),(4, .ptr 4 0),(6, .ptr 6 0),(8, .d (sI ac)),(10, .ptr 10 0),(41, .d (sI LL)),(42,eN g.es.length),(43,eN k)], [(2, .box [eN g.n, .d (sE g.es)]),(3, .box [.d (sI p.ord), .d (.sl 1 (vI p.outs))]),(4, .box [.nil 3, .nil 3, .nil 3, .nil 3]),(6, .box [.d (sI LL), .d (sI RR), .d (sI lo), .d (sI hi)]),(10, .box [.d (sI yl), .ref 201, .ref 202, .ref 200]),(200, .tip 3 1 ((arr (EC g p) k).map rI)),(201, .tip 3 1 []),(202, .tip 3 1 [])]⟩) (fun k=>g.es.length - k) 0 (by omega) ?_ ?_
 ·refine Le.of ?_ ?_
  ·simp [go_sem,simprocAttr,arr]
  ·simp [go_sem,simprocAttr,arr]
 rintro k hk
 rcases Nat.lt_or_ge k g.es.length with bD|xo
 ·have hb:decide ((k:Int)<(g.es.length:Int))=true:=decide_eq_true (by omega)
  have ql:=Ny k bD
  rw [← a1 k bD] at ql
  have hx1:=Pq k bD
  have fc:=CI (f:=EC g p) (k:=k)
  have mW:(arr (EC g p) k).length=k:=cA
  generalize arr (EC g p) k=XA at fc mW
  obtain ⟨f,hf⟩:∃f:Nat,LL.getD k 0=f:=⟨(LL.getD k 0).toNat,by omega⟩
  rw [hf] at ql hx1
  rw [hac] at hx1
  repeat' (first|fail|((first|((with_reducible (first|apply oA|apply oB));exact rfl;intro K hK)|(refine hK _ ?_;clear hK K)|((with_reducible (first|apply oG|apply oH));iterate 3 exact rfl)|((with_reducible apply oI);(iterate 2 exact rfl);intro K hK)|(with_reducible (first|apply wI|apply wJ|apply wK)));try simp only [go_sem,simprocAttr,hb,hf,k1,c1,mW])|(show cV _ (.region 11 _ _) _ _;(refine bU hX 10 3 54 200 rfl rfl rfl (by first|exact .inl rfl|exact .inr rfl) (by decide) (by decide) ?_;simp only [LA.app,ASt.put,ASt.kill,subT,rmk,putM,rml,kl,AV.sub,AV.subs,AObj.sub,List.set_cons_zero,List.set_cons_succ,go_sem,simprocAttr,hb,hf,k1,c1,mW]))|(with_reducible (first|apply oC|apply oJ|exact oK|apply wA|apply wB|apply wC hX hC|apply wD hX hC|apply wE hX hC af|apply wF hX hC af|apply wG|apply wH|apply And.intro))|((with_reducible refine oD ?_ ?_);first|fail|kernel_rfl)|((with_reducible (first|apply oE|apply oF));(iterate 3 exact rfl);all_goals (intro h;first|(exact absurd h (by decide))|((try simp only [go_sem,simprocAttr,hb,hf,k1,c1,mW] at h);(try with_reducible intro K hK);simp only [go_sem,simprocAttr,hb,hf,k1,c1,mW])))|((first|((with_reducible apply wL);exact rfl)|((with_reducible apply wM);exact rfl));all_goals (try ((with_reducible intro h);first|(exact absurd h (by decide))|(try simp only [go_sem,simprocAttr,hb,hf,k1,c1,mW] at h))))|omega|((first|fail);try simp only [go_sem,simprocAttr,hb,hf,k1,c1,mW])|(intro h))
  refine ⟨k+1,by omega, ?_,by omega⟩
  rw [fc,hx1]
  refine Le.of ?_ ?_<;>simp [go_sem,simprocAttr,hb,hf,k1,c1,mW,rI]
 have hb:decide ((k:Int)<(g.es.length:Int))=false:=decide_eq_false (by omega)
 obtain rfl:k=g.es.length:=by omega
 generalize arr (EC g p) g.es.length=XA
 repeat' (first|fail|((first|((with_reducible (first|apply oA|apply oB));exact rfl;intro K hK)|(refine hK _ ?_;clear hK K)|((with_reducible (first|apply oG|apply oH));iterate 3 exact rfl)|((with_reducible apply oI);(iterate 2 exact rfl);intro K hK)|(with_reducible (first|apply wI|apply wJ|apply wK)));try simp only [go_sem,simprocAttr,hb])|fail|(with_reducible (first|apply oC|apply oJ|exact oK|apply wA|apply wB|apply wC hX hC|apply wD hX hC|apply wE hX hC af|apply wF hX hC af|apply wG|apply wH|apply And.intro))|((with_reducible refine oD ?_ ?_);first|fail|kernel_rfl)|((with_reducible (first|apply oE|apply oF));(iterate 3 exact rfl);all_goals (intro h;first|(exact absurd h (by decide))|((try simp only [go_sem,simprocAttr,hb] at h);(try with_reducible intro K hK);simp only [go_sem,simprocAttr,hb])))|((first|((with_reducible apply wL);exact rfl)|((with_reducible apply wM);exact rfl));all_goals (try ((with_reducible intro h);first|(exact absurd h (by decide))|(try simp only [go_sem,simprocAttr,hb] at h))))|omega|((first|fail);try simp only [go_sem,simprocAttr,hb])|(intro h))
 refine aj (fun k:Nat=>k≤p.outs.length) (fun k=>⟨[(2, .ptr 2 0),(3, .ptr 3 0),(4, .ptr 4 0),(6, .ptr 6 0),(8, .d (sI ac)),(10, .ptr 10 0),(58, .d (.sl 1 (vI p.outs))),(59,eN p.outs.length),(60,eN k)], [(2, .box [eN g.n, .d (sE g.es)]),(3, .box [.d (sI p.ord), .d (.sl 1 (vI p.outs))]),(4, .box [.nil 3, .nil 3, .nil 3, .nil 3]),(6, .box [.d (sI LL), .d (sI RR), .d (sI lo), .d (sI hi)]),(10, .box [.d (sI yl), .ref 201, .ref 202, .ref 200]),(200, .tip 3 1 (XA.map rI)),(201, .tip 3 1 (((p.outs.take k).map (CH g p)).map rI)),(202, .tip 3 1 (((p.outs.take k).map (toV g p)).map rI))]⟩) (fun k=>p.outs.length - k) 0 (by omega) ?_ ?_
 ·refine Le.of ?_ ?_<;>simp [go_sem,simprocAttr]
 rintro k hk
 rcases Nat.lt_or_ge k p.outs.length with bD|xo
 rotate_left
 ·have hb:decide ((k:Int)<(p.outs.length:Int))=false:=decide_eq_false (by omega)
  obtain rfl:k=p.outs.length:=by omega
  rw [List.take_length]
  repeat' (first|fail|((first|((with_reducible (first|apply oA|apply oB));exact rfl;intro K hK)|(refine hK _ ?_;clear hK K)|((with_reducible (first|apply oG|apply oH));iterate 3 exact rfl)|((with_reducible apply oI);(iterate 2 exact rfl);intro K hK)|(with_reducible (first|apply wI|apply wJ|apply wK)));try simp only [go_sem,simprocAttr,hb,aF])|fail|(with_reducible (first|apply oC|apply oJ|exact oK|apply wA|apply wB|apply wC hX hC|apply wD hX hC|apply wE hX hC af|apply wF hX hC af|apply wG|apply wH|apply And.intro))|((with_reducible refine oD ?_ ?_);first|fail|kernel_rfl)|((with_reducible (first|apply oE|apply oF));(iterate 3 exact rfl);all_goals (intro h;first|(exact absurd h (by decide))|((try simp only [go_sem,simprocAttr,hb,aF] at h);(try with_reducible intro K hK);simp only [go_sem,simprocAttr,hb,aF])))|((first|((with_reducible apply wL);exact rfl)|((with_reducible apply wM);exact rfl));all_goals (try ((with_reducible intro h);first|(exact absurd h (by decide))|(try simp only [go_sem,simprocAttr,hb,aF] at h))))|omega|((first|fail);try simp only [go_sem,simprocAttr,hb,aF])|(intro h))
 have hb:decide ((k:Int)<(p.outs.length:Int))=true:=decide_eq_true (by omega)
 have hv:=mX bD
 have ho:=hout k bD
 have hlb:=MC _ (aY (d:= []) bD)
 have DT:(p.outs.take (k+1)).map (CH g p)=(p.outs.take k).map (CH g p)++ [CH g p (p.outs.getD k [])]:=mc bD
 have hn2:(p.outs.take (k+1)).map (toV g p)=(p.outs.take k).map (toV g p)++ [toV g p (p.outs.getD k [])]:=mc bD
 have sx:((p.outs.take k).map (CH g p)).length=k:=by rw [List.length_map,List.length_take];omega
 have um:((p.outs.take k).map (toV g p)).length=k:=by rw [List.length_map,List.length_take];omega
 have k8:(((cN g p+1:Nat):Int) - 1)=((cN g p:Nat):Int):=by omega
 have Qh:=hbd (cN g p)
 have hk2:=k2 (cN g p)
 generalize p.outs.getD k []=l at hv ho hlb DT hn2
 generalize (p.outs.take k).map (CH g p)=F1 at DT sx
 generalize (p.outs.take k).map (toV g p)=F2 at hn2 um
 by_cases hl:l= []
 ·subst hl
  have e1:CH g p []=0:=rfl
  have e2:toV g p []=ac.getD (cN g p) 0 - 1:=by rw [hto,if_pos rfl,hac]
  rw [e1] at DT
  rw [e2] at hn2
  repeat' (first|fail|((first|((with_reducible (first|apply oA|apply oB));exact rfl;intro K hK)|(refine hK _ ?_;clear hK K)|((with_reducible (first|apply oG|apply oH));iterate 3 exact rfl)|((with_reducible apply oI);(iterate 2 exact rfl);intro K hK)|(with_reducible (first|apply wI|apply wJ|apply wK)));try simp only [go_sem,simprocAttr,hb,hv,k1,k8,sx,um,List.map_nil,List.length_nil])|(show cV _ (.region 20 _ _) _ _;(refine bU hX 10 1 100 201 rfl rfl rfl (by first|exact .inl rfl|exact .inr rfl) (by decide) (by decide) ?_;simp only [LA.app,ASt.put,ASt.kill,subT,rmk,putM,rml,kl,AV.sub,AV.subs,AObj.sub,List.set_cons_zero,List.set_cons_succ,go_sem,simprocAttr,hb,hv,k1,k8,sx,um,List.map_nil,List.length_nil]);(refine bU hX 10 2 106 202 rfl rfl rfl (by first|exact .inl rfl|exact .inr rfl) (by decide) (by decide) ?_;simp only [LA.app,ASt.put,ASt.kill,subT,rmk,putM,rml,kl,AV.sub,AV.subs,AObj.sub,List.set_cons_zero,List.set_cons_succ,go_sem,simprocAttr,hb,hv,k1,k8,sx,um,List.map_nil,List.length_nil]))|(with_reducible (first|apply oC|apply oJ|exact oK|apply wA|apply wB|apply wC hX hC|apply wD hX hC|apply wE hX hC af|apply wF hX hC af|apply wG|apply wH|apply And.intro))|((with_reducible refine oD ?_ ?_);first|fail|kernel_rfl)|((with_reducible (first|apply oE|apply oF));(iterate 3 exact rfl);all_goals (intro h;first|(exact absurd h (by decide))|((try simp only [go_sem,simprocAttr,hb,hv,k1,k8,sx,um,List.map_nil,List.length_nil] at h);(try with_reducible intro K hK);simp only [go_sem,simprocAttr,hb,hv,k1,k8,sx,um,List.map_nil,List.length_nil])))|((first|((with_reducible apply wL);exact rfl)|((with_reducible apply wM);exact rfl));all_goals (try ((with_reducible intro h);first|(exact absurd h (by decide))|(try simp only [go_sem,simprocAttr,hb,hv,k1,k8,sx,um,List.map_nil,List.length_nil] at h))))|omega|((first|fail);try simp only [go_sem,simprocAttr,hb,hv,k1,k8,sx,um,List.map_nil,List.length_nil])|(intro h))
  refine ⟨k+1,by omega, ?_,by omega⟩
  rw [DT,hn2]
  refine Le.of ?_ ?_<;>simp [go_sem,simprocAttr,hb,hv,k1,k8,sx,um,List.map_nil,List.length_nil,rI]
 ·have hlp:=List.length_pos_iff.2 hl
  have an:decide (0<(l.length:Int))=true:=decide_eq_true (by omega)
  have o1:=ho _ (aY (d:=0) (show 0<l.length by omega))
  have o2:=ho _ (aY (d:=0) (show l.length - 1<l.length by omega))
  have ED:((l.length:Int) - 1)=((l.length - 1:Nat):Int):=by omega
  obtain ⟨e,he⟩:∃e:Nat,l.getD 0 0=e:=⟨(l.getD 0 0).toNat,by omega⟩
  obtain ⟨f,hf⟩:∃f:Nat,l.getD (l.length - 1) 0=f:=⟨(l.getD (l.length - 1) 0).toNat,by omega⟩
  have r1:=Ny e (by omega)
  have r2:=Gh f (by omega)
  rw [← a1 e (by omega)] at r1
  rw [← a2 f (by omega)] at r2
  obtain ⟨u,hu⟩:∃u:Nat,LL.getD e 0=u:=⟨(LL.getD e 0).toNat,by omega⟩
  obtain ⟨w,hw⟩:∃w:Nat,RR.getD f 0=w:=⟨(RR.getD f 0).toNat,by omega⟩
  have e1:CH g p l=ac.getD u 0:=by rw [hfr,if_neg hl,he, ← a1 e (by omega),hu,hac]
  have e2:toV g p l=ac.getD w 0 - 1:=by rw [hto,if_neg hl,hf, ← a2 f (by omega),hw,hac]
  rw [hu] at r1
  rw [hw] at r2
  have Qi:=k2 w
  have Qj:=hbd w
  rw [e1] at DT
  rw [e2] at hn2
  repeat' (first|fail|((first|((with_reducible (first|apply oA|apply oB));exact rfl;intro K hK)|(refine hK _ ?_;clear hK K)|((with_reducible (first|apply oG|apply oH));iterate 3 exact rfl)|((with_reducible apply oI);(iterate 2 exact rfl);intro K hK)|(with_reducible (first|apply wI|apply wJ|apply wK)));try simp only [go_sem,simprocAttr,hb,an,hv,k1,c1,c2,k8,sx,um,ED,he,hf,hu,hw])|(show cV _ (.region 20 _ _) _ _;(refine bU hX 10 1 100 201 rfl rfl rfl (by first|exact .inl rfl|exact .inr rfl) (by decide) (by decide) ?_;simp only [LA.app,ASt.put,ASt.kill,subT,rmk,putM,rml,kl,AV.sub,AV.subs,AObj.sub,List.set_cons_zero,List.set_cons_succ,go_sem,simprocAttr,hb,an,hv,k1,c1,c2,k8,sx,um,ED,he,hf,hu,hw]);(refine bU hX 10 2 106 202 rfl rfl rfl (by first|exact .inl rfl|exact .inr rfl) (by decide) (by decide) ?_;simp only [LA.app,ASt.put,ASt.kill,subT,rmk,putM,rml,kl,AV.sub,AV.subs,AObj.sub,List.set_cons_zero,List.set_cons_succ,go_sem,simprocAttr,hb,an,hv,k1,c1,c2,k8,sx,um,ED,he,hf,hu,hw]))|(with_reducible (first|apply oC|apply oJ|exact oK|apply wA|apply wB|apply wC hX hC|apply wD hX hC|apply wE hX hC af|apply wF hX hC af|apply wG|apply wH|apply And.intro))|((with_reducible refine oD ?_ ?_);first|fail|kernel_rfl)|((with_reducible (first|apply oE|apply oF));(iterate 3 exact rfl);all_goals (intro h;first|(exact absurd h (by decide))|((try simp only [go_sem,simprocAttr,hb,an,hv,k1,c1,c2,k8,sx,um,ED,he,hf,hu,hw] at h);(try with_reducible intro K hK);simp only [go_sem,simprocAttr,hb,an,hv,k1,c1,c2,k8,sx,um,ED,he,hf,hu,hw])))|((first|((with_reducible apply wL);exact rfl)|((with_reducible apply wM);exact rfl));all_goals (try ((with_reducible intro h);first|(exact absurd h (by decide))|(try simp only [go_sem,simprocAttr,hb,an,hv,k1,c1,c2,k8,sx,um,ED,he,hf,hu,hw] at h))))|omega|((first|fail);try simp only [go_sem,simprocAttr,hb,an,hv,k1,c1,c2,k8,sx,um,ED,he,hf,hu,hw])|(intro h))
  refine ⟨k+1,by omega, ?_,by omega⟩
  rw [DT,hn2]
  refine Le.of ?_ ?_<;>simp [go_sem,simprocAttr,hb,an,hv,k1,c1,c2,k8,sx,um,ED,he,hf,hu,hw,rI]
end Go.Ab
end
section
namespace Go.Ab
open Go.Proofs
attribute [local congr] ACall.congr
set_option maxRecDepth 20000
set_option maxHeartbeats 16000000
def hasB (b:Br) (x:Nat) (q:Int):Bool:=decide (b.fr.getD x 0≤q)&&decide (q≤b.to.getD x 0)
theorem x4 (b:Br) (x:Nat) (q:Int) (h1:x<b.fr.length) (h2:x<b.to.length) (hl:b.fr.length≤100000):Spec Tryz.prog 104 (Args [aF b,eN x,eN q]) [] (eB (hasB b x q)) []:=by
 cases hc:decide (b.fr.getD x 0≤q) with
 |false=>
  have hr:hasB b x q=false:=by unfold hasB;rw [hc];rfl
  rw [hr]
  (refine Spec.intro (C:=T.cfg [] []) (rs:= [.t 6]) (T.ak _ _) Tryz.func104 rfl rfl Tryz.ntmps104 Tryz.results104 (by simp [AObj.isNest]) (by simp [AObj.isNest]) (by kernel_rfl) ?_;intro X hX hP hC aK aL vals hA;refine ⟨_,by simp,hA, ?_⟩;have af:X.P.follows .mixedOrders=true:=(by rw [hP];exact T.mixed);clear aK aL)
  repeat' (first|fail|((first|((with_reducible (first|apply oA|apply oB));exact rfl;intro K hK)|(refine hK _ ?_;clear hK K)|((with_reducible (first|apply oG|apply oH));iterate 3 exact rfl)|((with_reducible apply oI);(iterate 2 exact rfl);intro K hK)|(with_reducible (first|apply wI|apply wJ|apply wK)));try simp only [go_sem,simprocAttr,aF,hc])|fail|(with_reducible (first|apply oC|apply oJ|exact oK|apply wA|apply wB|apply wC hX hC|apply wD hX hC|apply wE hX hC af|apply wF hX hC af|apply wG|apply wH|apply And.intro))|((with_reducible refine oD ?_ ?_);first|fail|kernel_rfl)|((with_reducible (first|apply oE|apply oF));(iterate 3 exact rfl);all_goals (intro h;first|(exact absurd h (by decide))|((try simp only [go_sem,simprocAttr,aF,hc] at h);(try with_reducible intro K hK);simp only [go_sem,simprocAttr,aF,hc])))|((first|((with_reducible apply wL);exact rfl)|((with_reducible apply wM);exact rfl));all_goals (try ((with_reducible intro h);first|(exact absurd h (by decide))|(try simp only [go_sem,simprocAttr,aF,hc] at h))))|omega|((first|fail);try simp only [go_sem,simprocAttr,aF,hc])|(intro h))
 |true=>
  have hr:hasB b x q=decide (q≤b.to.getD x 0):=by unfold hasB;rw [hc];rfl
  rw [hr]
  (refine Spec.intro (C:=T.cfg [] []) (rs:= [.t 6]) (T.ak _ _) Tryz.func104 rfl rfl Tryz.ntmps104 Tryz.results104 (by simp [AObj.isNest]) (by simp [AObj.isNest]) (by kernel_rfl) ?_;intro X hX hP hC aK aL vals hA;refine ⟨_,by simp,hA, ?_⟩;have af:X.P.follows .mixedOrders=true:=(by rw [hP];exact T.mixed);clear aK aL)
  repeat' (first|fail|((first|((with_reducible (first|apply oA|apply oB));exact rfl;intro K hK)|(refine hK _ ?_;clear hK K)|((with_reducible (first|apply oG|apply oH));iterate 3 exact rfl)|((with_reducible apply oI);(iterate 2 exact rfl);intro K hK)|(with_reducible (first|apply wI|apply wJ|apply wK)));try simp only [go_sem,simprocAttr,aF,hc])|fail|(with_reducible (first|apply oC|apply oJ|exact oK|apply wA|apply wB|apply wC hX hC|apply wD hX hC|apply wE hX hC af|apply wF hX hC af|apply wG|apply wH|apply And.intro))|((with_reducible refine oD ?_ ?_);first|fail|kernel_rfl)|((with_reducible (first|apply oE|apply oF));(iterate 3 exact rfl);all_goals (intro h;first|(exact absurd h (by decide))|((try simp only [go_sem,simprocAttr,aF,hc] at h);(try with_reducible intro K hK);simp only [go_sem,simprocAttr,aF,hc])))|((first|((with_reducible apply wL);exact rfl)|((with_reducible apply wM);exact rfl));all_goals (try ((with_reducible intro h);first|(exact absurd h (by decide))|(try simp only [go_sem,simprocAttr,aF,hc] at h))))|omega|((first|fail);try simp only [go_sem,simprocAttr,aF,hc])|(intro h))
def CJ (b:Br) (x z:Nat):Bool:=decide (b.y.getD z 0=b.y.getD x 0)&&decide (b.fr.getD z 0≤b.to.getD x 0)&&decide (b.fr.getD x 0≤b.to.getD z 0)
def FN (b:Br) (x:Nat):Bool:=decide (b.fr.getD x 0≤b.to.getD x 0)&&(List.range x).all fun z=> !CJ b x z
def jJ (b:Br):Bool:=(List.range b.y.length).all (FN b)
theorem eX {n:Nat} {f:Nat→Bool} {k:Nat} (hk:k<n) (h:f k=false):(List.range n).all f=false:=List.all_eq_false.2 ⟨k,List.mem_range.2 hk,by rw [h];decide⟩
theorem fJ {n:Nat} {f:Nat→Bool} (h:∀k,k<n→f k=true):(List.range n).all f=true:=List.all_eq_true.2 fun k hk=>h k (List.mem_range.1 hk)
theorem apart_spec (b:Br) (h1:b.fr.length=b.y.length) (h2:b.to.length=b.y.length) (hl:b.y.length≤100000):Spec Tryz.prog 76 (Args [aF b]) [] (eB (jJ b)) []:=by
 (refine Spec.intro (C:=T.cfg [] []) (rs:= [.t 2]) (T.ak _ _) Tryz.func76 rfl rfl Tryz.ntmps76 Tryz.results76 (by simp [AObj.isNest]) (by simp [AObj.isNest]) (by kernel_rfl) ?_;intro X hX hP hC aK aL vals hA;refine ⟨_,by simp,hA, ?_⟩;have af:X.P.follows .mixedOrders=true:=(by rw [hP];exact T.mixed);clear aK aL)
 repeat' (first|fail|((first|((with_reducible (first|apply oA|apply oB));exact rfl;intro K hK)|(refine hK _ ?_;clear hK K)|((with_reducible (first|apply oG|apply oH));iterate 3 exact rfl)|((with_reducible apply oI);(iterate 2 exact rfl);intro K hK)|(with_reducible (first|apply wI|apply wJ|apply wK)));try simp only [go_sem,simprocAttr,aF])|fail|(with_reducible (first|apply oC|apply oJ|exact oK|apply wA|apply wB|apply wC hX hC|apply wD hX hC|apply wE hX hC af|apply wF hX hC af|apply wG|apply wH|apply And.intro))|((with_reducible refine oD ?_ ?_);first|fail|kernel_rfl)|((with_reducible (first|apply oE|apply oF));(iterate 3 exact rfl);all_goals (intro h;first|(exact absurd h (by decide))|((try simp only [go_sem,simprocAttr,aF] at h);(try with_reducible intro K hK);simp only [go_sem,simprocAttr,aF])))|((first|((with_reducible apply wL);exact rfl)|((with_reducible apply wM);exact rfl));all_goals (try ((with_reducible intro h);first|(exact absurd h (by decide))|(try simp only [go_sem,simprocAttr,aF] at h))))|omega|((first|fail);try simp only [go_sem,simprocAttr,aF])|(intro h))
 refine aj (fun k:Nat=>k≤b.y.length∧∀j,j<k→FN b j=true) (fun k=>⟨[(1, .ptr 1 0),(7, .d (sI b.y)),(8,eN b.y.length),(9,eN k)], [(1, .box [.d (sI b.y), .d (sI b.fr), .d (sI b.to), .d (sI b.x)])]⟩) (fun k=>b.y.length - k) 0 ⟨by omega,fun j hj=>by omega⟩ ?_ ?_
 ·refine Le.of ?_ ?_<;>simp [go_sem,simprocAttr]
 rintro k ⟨hk,hin⟩
 rcases Nat.lt_or_ge k b.y.length with bD|xo
 rotate_left
 ·have hb:decide ((k:Int)<(b.y.length:Int))=false:=decide_eq_false (by omega)
  obtain rfl:k=b.y.length:=by omega
  have hr:jJ b=true:=fJ hin
  rw [hr]
  repeat' (first|fail|((first|((with_reducible (first|apply oA|apply oB));exact rfl;intro K hK)|(refine hK _ ?_;clear hK K)|((with_reducible (first|apply oG|apply oH));iterate 3 exact rfl)|((with_reducible apply oI);(iterate 2 exact rfl);intro K hK)|(with_reducible (first|apply wI|apply wJ|apply wK)));try simp only [go_sem,simprocAttr,hb])|fail|(with_reducible (first|apply oC|apply oJ|exact oK|apply wA|apply wB|apply wC hX hC|apply wD hX hC|apply wE hX hC af|apply wF hX hC af|apply wG|apply wH|apply And.intro))|((with_reducible refine oD ?_ ?_);first|fail|kernel_rfl)|((with_reducible (first|apply oE|apply oF));(iterate 3 exact rfl);all_goals (intro h;first|(exact absurd h (by decide))|((try simp only [go_sem,simprocAttr,hb] at h);(try with_reducible intro K hK);simp only [go_sem,simprocAttr,hb])))|((first|((with_reducible apply wL);exact rfl)|((with_reducible apply wM);exact rfl));all_goals (try ((with_reducible intro h);first|(exact absurd h (by decide))|(try simp only [go_sem,simprocAttr,hb] at h))))|omega|((first|fail);try simp only [go_sem,simprocAttr,hb])|(intro h))
 have hb:decide ((k:Int)<(b.y.length:Int))=true:=decide_eq_true (by omega)
 by_cases hc:b.fr.getD k 0≤b.to.getD k 0
 rotate_left
 ·have hc1:decide (b.to.getD k 0<b.fr.getD k 0)=true:=decide_eq_true (by omega)
  have hr:jJ b=false:=eX bD (by unfold FN;rw [decide_eq_false hc];rfl)
  rw [hr]
  repeat' (first|fail|((first|((with_reducible (first|apply oA|apply oB));exact rfl;intro K hK)|(refine hK _ ?_;clear hK K)|((with_reducible (first|apply oG|apply oH));iterate 3 exact rfl)|((with_reducible apply oI);(iterate 2 exact rfl);intro K hK)|(with_reducible (first|apply wI|apply wJ|apply wK)));try simp only [go_sem,simprocAttr,hb,hc1])|fail|(with_reducible (first|apply oC|apply oJ|exact oK|apply wA|apply wB|apply wC hX hC|apply wD hX hC|apply wE hX hC af|apply wF hX hC af|apply wG|apply wH|apply And.intro))|((with_reducible refine oD ?_ ?_);first|fail|kernel_rfl)|((with_reducible (first|apply oE|apply oF));(iterate 3 exact rfl);all_goals (intro h;first|(exact absurd h (by decide))|((try simp only [go_sem,simprocAttr,hb,hc1] at h);(try with_reducible intro K hK);simp only [go_sem,simprocAttr,hb,hc1])))|((first|((with_reducible apply wL);exact rfl)|((with_reducible apply wM);exact rfl));all_goals (try ((with_reducible intro h);first|(exact absurd h (by decide))|(try simp only [go_sem,simprocAttr,hb,hc1] at h))))|omega|((first|fail);try simp only [go_sem,simprocAttr,hb,hc1])|(intro h))
 have hc1:decide (b.to.getD k 0<b.fr.getD k 0)=false:=decide_eq_false (by omega)
 repeat' (first|fail|((first|((with_reducible (first|apply oA|apply oB));exact rfl;intro K hK)|(refine hK _ ?_;clear hK K)|((with_reducible (first|apply oG|apply oH));iterate 3 exact rfl)|((with_reducible apply oI);(iterate 2 exact rfl);intro K hK)|(with_reducible (first|apply wI|apply wJ|apply wK)));try simp only [go_sem,simprocAttr,hb,hc1])|fail|(with_reducible (first|apply oC|apply oJ|exact oK|apply wA|apply wB|apply wC hX hC|apply wD hX hC|apply wE hX hC af|apply wF hX hC af|apply wG|apply wH|apply And.intro))|((with_reducible refine oD ?_ ?_);first|fail|kernel_rfl)|((with_reducible (first|apply oE|apply oF));(iterate 3 exact rfl);all_goals (intro h;first|(exact absurd h (by decide))|((try simp only [go_sem,simprocAttr,hb,hc1] at h);(try with_reducible intro K hK);simp only [go_sem,simprocAttr,hb,hc1])))|((first|((with_reducible apply wL);exact rfl)|((with_reducible apply wM);exact rfl));all_goals (try ((with_reducible intro h);first|(exact absurd h (by decide))|(try simp only [go_sem,simprocAttr,hb,hc1] at h))))|omega|((first|fail);try simp only [go_sem,simprocAttr,hb,hc1])|(intro h))
 refine aj (fun z:Nat=>z≤k∧∀j,j<z→CJ b k j=false) (fun z=>⟨[(1, .ptr 1 0),(3,eN k),(4,eN (b.y.getD k 0)),(7, .d (sI b.y)),(8,eN b.y.length),(9,eN k),(25,eN k),(26,eN z)], [(1, .box [.d (sI b.y), .d (sI b.fr), .d (sI b.to), .d (sI b.x)])]⟩) (fun z=>k - z) 0 ⟨by omega,fun j hj=>by omega⟩ ?_ ?_
 ·refine Le.of ?_ ?_<;>simp [go_sem,simprocAttr]
 rintro z ⟨hz,CK⟩
 rcases Nat.lt_or_ge z k with hzl|LS
 rotate_left
 ·have hbz:decide ((z:Int)<(k:Int))=false:=decide_eq_false (by omega)
  obtain rfl:z=k:=by omega
  repeat' (first|fail|((first|((with_reducible (first|apply oA|apply oB));exact rfl;intro K hK)|(refine hK _ ?_;clear hK K)|((with_reducible (first|apply oG|apply oH));iterate 3 exact rfl)|((with_reducible apply oI);(iterate 2 exact rfl);intro K hK)|(with_reducible (first|apply wI|apply wJ|apply wK)));try simp only [go_sem,simprocAttr,hbz])|fail|(with_reducible (first|apply oC|apply oJ|exact oK|apply wA|apply wB|apply wC hX hC|apply wD hX hC|apply wE hX hC af|apply wF hX hC af|apply wG|apply wH|apply And.intro))|((with_reducible refine oD ?_ ?_);first|fail|kernel_rfl)|((with_reducible (first|apply oE|apply oF));(iterate 3 exact rfl);all_goals (intro h;first|(exact absurd h (by decide))|((try simp only [go_sem,simprocAttr,hbz] at h);(try with_reducible intro K hK);simp only [go_sem,simprocAttr,hbz])))|((first|((with_reducible apply wL);exact rfl)|((with_reducible apply wM);exact rfl));all_goals (try ((with_reducible intro h);first|(exact absurd h (by decide))|(try simp only [go_sem,simprocAttr,hbz] at h))))|omega|((first|fail);try simp only [go_sem,simprocAttr,hbz])|(intro h))
  refine ⟨z+1,⟨by omega,fun j hj=> ?_⟩, ?_,by omega⟩
  ·by_cases sq:j=z
   ·subst sq
    unfold FN
    rw [decide_eq_true hc,fJ (f:=fun z=> !CJ b j z) (fun i hi=>by rw [CK i hi];rfl)];rfl
   ·exact hin j (by omega)
  ·refine Le.of ?_ ?_<;>simp [go_sem,simprocAttr,hbz]
 have hbz:decide ((z:Int)<(k:Int))=true:=decide_eq_true (by omega)
 have hap:CJ b k z=(decide (b.y.getD z 0=b.y.getD k 0)&&decide (b.fr.getD z 0≤b.to.getD k 0)&&decide (b.fr.getD k 0≤b.to.getD z 0)):=rfl
 have hno:CJ b k z=true→jJ b=false:=fun h1=>eX bD (by unfold FN;rw [eX (f:=fun z=> !CJ b k z) hzl (by rw [h1];rfl),Bool.and_false])
 have hyes:CJ b k z=false→∀j,j<z+1→CJ b k j=false:=fun h1 j hj=>by
  by_cases sq:j=z
  ·subst sq;exact h1
  ·exact CK j (by omega)
 generalize CJ b k z=av at*
 cases dm:decide (b.y.getD z 0=b.y.getD k 0)<;>cases fk:decide (b.fr.getD z 0≤b.to.getD k 0)<;>cases jQ:decide (b.fr.getD k 0≤b.to.getD z 0)<;>rw [dm,fk,jQ] at hap<;>simp only [Bool.and_true,Bool.and_false,Bool.true_and,Bool.false_and] at hap<;>subst hap
 all_goals (
 repeat' (first|fail|((first|((with_reducible (first|apply oA|apply oB));exact rfl;intro K hK)|(refine hK _ ?_;clear hK K)|((with_reducible (first|apply oG|apply oH));iterate 3 exact rfl)|((with_reducible apply oI);(iterate 2 exact rfl);intro K hK)|(with_reducible (first|apply wI|apply wJ|apply wK)));try simp only [go_sem,simprocAttr,hbz,dm,fk,jQ])|fail|(with_reducible (first|apply oC|apply oJ|exact oK|apply wA|apply wB|apply wC hX hC|apply wD hX hC|apply wE hX hC af|apply wF hX hC af|apply wG|apply wH|apply And.intro))|((with_reducible refine oD ?_ ?_);first|fail|kernel_rfl)|((with_reducible (first|apply oE|apply oF));(iterate 3 exact rfl);all_goals (intro h;first|(exact absurd h (by decide))|((try simp only [go_sem,simprocAttr,hbz,dm,fk,jQ] at h);(try with_reducible intro K hK);simp only [go_sem,simprocAttr,hbz,dm,fk,jQ])))|((first|((with_reducible apply wL);exact rfl)|((with_reducible apply wM);exact rfl));all_goals (try ((with_reducible intro h);first|(exact absurd h (by decide))|(try simp only [go_sem,simprocAttr,hbz,dm,fk,jQ] at h))))|omega|((first|fail);try simp only [go_sem,simprocAttr,hbz,dm,fk,jQ])|(intro h)))
 all_goals (first|(rw [hno rfl];done)|(exact hno rfl)|(exact (hno rfl).symm)|(refine ⟨z+1,⟨by omega,hyes rfl⟩, ?_,by omega⟩;refine Le.of ?_ ?_<;>simp [go_sem];done)|trace_state)
end Go.Ab
end
section
namespace Go.Ab
open Go.Proofs
attribute [local congr] ACall.congr
set_option maxRecDepth 20000
set_option maxHeartbeats 32000000
def lH (b:Br) (g:Gr):Bool:=decide ((b.y.length:Int)=g.n)&&decide ((b.fr.length:Int)=g.n)&&decide ((b.to.length:Int)=g.n)&&decide ((b.x.length:Int)=(g.es.length:Int))
theorem Ar (b:Br) (g:Gr):Spec Tryz.prog 75 (Args [aF b,eG g]) [] (eB (lH b g)) []:=by
 have hf:lH b g=(decide ((b.y.length:Int)=g.n)&&decide ((b.fr.length:Int)=g.n)&&decide ((b.to.length:Int)=g.n)&&decide ((b.x.length:Int)=(g.es.length:Int))):=rfl
 cases h1:decide ((b.y.length:Int)=g.n)<;>cases h2:decide ((b.fr.length:Int)=g.n)<;>cases h3:decide ((b.to.length:Int)=g.n)<;>rw [h1,h2,h3] at hf<;>simp only [Bool.and_true,Bool.and_false,Bool.true_and,Bool.false_and] at hf<;>rw [hf]
 all_goals (
 (refine Spec.intro (C:=T.cfg [] []) (rs:= [.t 4]) (T.ak _ _) Tryz.func75 rfl rfl Tryz.ntmps75 Tryz.results75 (by simp [AObj.isNest]) (by simp [AObj.isNest]) (by kernel_rfl) ?_;intro X hX hP hC aK aL vals hA;refine ⟨_,by simp,hA, ?_⟩;have af:X.P.follows .mixedOrders=true:=(by rw [hP];exact T.mixed);clear aK aL)
 repeat' (first|fail|((first|((with_reducible (first|apply oA|apply oB));exact rfl;intro K hK)|(refine hK _ ?_;clear hK K)|((with_reducible (first|apply oG|apply oH));iterate 3 exact rfl)|((with_reducible apply oI);(iterate 2 exact rfl);intro K hK)|(with_reducible (first|apply wI|apply wJ|apply wK)));try simp only [go_sem,simprocAttr,aF,h1,h2,h3])|fail|(with_reducible (first|apply oC|apply oJ|exact oK|apply wA|apply wB|apply wC hX hC|apply wD hX hC|apply wE hX hC af|apply wF hX hC af|apply wG|apply wH|apply And.intro))|((with_reducible refine oD ?_ ?_);first|fail|kernel_rfl)|((with_reducible (first|apply oE|apply oF));(iterate 3 exact rfl);all_goals (intro h;first|(exact absurd h (by decide))|((try simp only [go_sem,simprocAttr,aF,h1,h2,h3] at h);(try with_reducible intro K hK);simp only [go_sem,simprocAttr,aF,h1,h2,h3])))|((first|((with_reducible apply wL);exact rfl)|((with_reducible apply wM);exact rfl));all_goals (try ((with_reducible intro h);first|(exact absurd h (by decide))|(try simp only [go_sem,simprocAttr,aF,h1,h2,h3] at h))))|omega|((first|fail);try simp only [go_sem,simprocAttr,aF,h1,h2,h3])|(intro h)))
def uX (b:Br) (lo hi q:Int) (x:Nat):Bool:=decide (lo<b.y.getD x 0)&&decide (b.y.getD x 0<hi)&&hasB b x q
def dc (b:Br) (s t:Nat) (q:Int):Bool:=decide (b.y.getD s 0<b.y.getD t 0)&&hasB b s q&&hasB b t q&&(List.range b.y.length).all fun x=> !uX b (b.y.getD s 0) (b.y.getD t 0) q x
theorem x5 (b:Br) (s t:Nat) (q:Int) (h1:b.fr.length=b.y.length) (h2:b.to.length=b.y.length) (hl:b.y.length≤100000) (hs:s<b.y.length) (ht:t<b.y.length):Spec Tryz.prog 77 (Args [aF b, .agg [eN s,eN t],eN q]) [] (eB (dc b s t q)) []:=by
 have hH:=fun x (hx:x<b.y.length)=>x4 b x q (by omega) (by omega) (by omega)
 have Jy:=hH s hs
 have J1:=hH t ht
 by_cases hc:b.y.getD s 0<b.y.getD t 0
 rotate_left
 ·have hr:dc b s t q=false:=by unfold dc;rw [decide_eq_false hc];rfl
  have hc1:decide (b.y.getD t 0≤b.y.getD s 0)=true:=decide_eq_true (by omega)
  rw [hr]
  (refine Spec.intro (C:=T.cfg [] []) (rs:= [.t 6]) (T.ak _ _) Tryz.func77 rfl rfl Tryz.ntmps77 Tryz.results77 (by simp [AObj.isNest]) (by simp [AObj.isNest]) (by kernel_rfl) ?_;intro X hX hP hC aK aL vals hA;refine ⟨_,by simp,hA, ?_⟩;have af:X.P.follows .mixedOrders=true:=(by rw [hP];exact T.mixed);clear aK aL)
  repeat' (first|fail|((first|((with_reducible (first|apply oA|apply oB));exact rfl;intro K hK)|(refine hK _ ?_;clear hK K)|((with_reducible (first|apply oG|apply oH));iterate 3 exact rfl)|((with_reducible apply oI);(iterate 2 exact rfl);intro K hK)|(with_reducible (first|apply wI|apply wJ|apply wK)));try simp only [go_sem,simprocAttr,aF,hc1])|fail|(with_reducible (first|apply oC|apply oJ|exact oK|apply wA|apply wB|apply wC hX hC|apply wD hX hC|apply wE hX hC af|apply wF hX hC af|apply wG|apply wH|apply And.intro))|((with_reducible refine oD ?_ ?_);first|fail|kernel_rfl)|((with_reducible (first|apply oE|apply oF));(iterate 3 exact rfl);all_goals (intro h;first|(exact absurd h (by decide))|((try simp only [go_sem,simprocAttr,aF,hc1] at h);(try with_reducible intro K hK);simp only [go_sem,simprocAttr,aF,hc1])))|((first|((with_reducible apply wL);exact rfl)|((with_reducible apply wM);exact rfl));all_goals (try ((with_reducible intro h);first|(exact absurd h (by decide))|(try simp only [go_sem,simprocAttr,aF,hc1] at h))))|omega|((first|fail);try simp only [go_sem,simprocAttr,aF,hc1])|(intro h))
 have hc1:decide (b.y.getD t 0≤b.y.getD s 0)=false:=decide_eq_false (by omega)
 cases hvs:hasB b s q with
 |false=>
  have hr:dc b s t q=false:=by unfold dc;rw [hvs];simp
  rw [hr]
  rw [hvs] at Jy
  (refine Spec.intro (C:=T.cfg [] []) (rs:= [.t 6]) (T.ak _ _) Tryz.func77 rfl rfl Tryz.ntmps77 Tryz.results77 (by simp [AObj.isNest]) (by simp [AObj.isNest]) (by kernel_rfl) ?_;intro X hX hP hC aK aL vals hA;refine ⟨_,by simp,hA, ?_⟩;have af:X.P.follows .mixedOrders=true:=(by rw [hP];exact T.mixed);clear aK aL)
  repeat' (first|fail|((first|((with_reducible (first|apply oA|apply oB));exact rfl;intro K hK)|(refine hK _ ?_;clear hK K)|((with_reducible (first|apply oG|apply oH));iterate 3 exact rfl)|((with_reducible apply oI);(iterate 2 exact rfl);intro K hK)|(with_reducible (first|apply wI|apply wJ|apply wK)));try simp only [go_sem,simprocAttr,aF,hc1])|fail|(with_reducible (first|apply oC|apply oJ|exact oK|apply wA|apply wB|apply wC hX hC|apply wD hX hC|apply wE hX hC af|apply wF hX hC af|apply wG|apply wH|apply And.intro))|((with_reducible refine oD ?_ ?_);first|fail|kernel_rfl)|((with_reducible (first|apply oE|apply oF));(iterate 3 exact rfl);all_goals (intro h;first|(exact absurd h (by decide))|((try simp only [go_sem,simprocAttr,aF,hc1] at h);(try with_reducible intro K hK);simp only [go_sem,simprocAttr,aF,hc1])))|((first|((with_reducible apply wL);exact rfl)|((with_reducible apply wM);exact rfl));all_goals (try ((with_reducible intro h);first|(exact absurd h (by decide))|(try simp only [go_sem,simprocAttr,aF,hc1] at h))))|omega|((first|first|refine aa hX hC hP (Jy) rfl rfl rfl (by simp only [go_sem,simprocAttr,aF,hc1]) rfl ?_);try simp only [go_sem,simprocAttr,aF,hc1])|(intro h))
 |true=>
 rw [hvs] at Jy
 cases EE:hasB b t q with
 |false=>
  have hr:dc b s t q=false:=by unfold dc;rw [EE];simp
  rw [hr]
  rw [EE] at J1
  (refine Spec.intro (C:=T.cfg [] []) (rs:= [.t 6]) (T.ak _ _) Tryz.func77 rfl rfl Tryz.ntmps77 Tryz.results77 (by simp [AObj.isNest]) (by simp [AObj.isNest]) (by kernel_rfl) ?_;intro X hX hP hC aK aL vals hA;refine ⟨_,by simp,hA, ?_⟩;have af:X.P.follows .mixedOrders=true:=(by rw [hP];exact T.mixed);clear aK aL)
  repeat' (first|fail|((first|((with_reducible (first|apply oA|apply oB));exact rfl;intro K hK)|(refine hK _ ?_;clear hK K)|((with_reducible (first|apply oG|apply oH));iterate 3 exact rfl)|((with_reducible apply oI);(iterate 2 exact rfl);intro K hK)|(with_reducible (first|apply wI|apply wJ|apply wK)));try simp only [go_sem,simprocAttr,aF,hc1])|fail|(with_reducible (first|apply oC|apply oJ|exact oK|apply wA|apply wB|apply wC hX hC|apply wD hX hC|apply wE hX hC af|apply wF hX hC af|apply wG|apply wH|apply And.intro))|((with_reducible refine oD ?_ ?_);first|fail|kernel_rfl)|((with_reducible (first|apply oE|apply oF));(iterate 3 exact rfl);all_goals (intro h;first|(exact absurd h (by decide))|((try simp only [go_sem,simprocAttr,aF,hc1] at h);(try with_reducible intro K hK);simp only [go_sem,simprocAttr,aF,hc1])))|((first|((with_reducible apply wL);exact rfl)|((with_reducible apply wM);exact rfl));all_goals (try ((with_reducible intro h);first|(exact absurd h (by decide))|(try simp only [go_sem,simprocAttr,aF,hc1] at h))))|omega|((first|first|refine aa hX hC hP (Jy) rfl rfl rfl (by simp only [go_sem,simprocAttr,aF,hc1]) rfl ?_|refine aa hX hC hP (J1) rfl rfl rfl (by simp only [go_sem,simprocAttr,aF,hc1]) rfl ?_);try simp only [go_sem,simprocAttr,aF,hc1])|(intro h))
 |true=>
 rw [EE] at J1
 have hr:dc b s t q=(List.range b.y.length).all fun x=> !uX b (b.y.getD s 0) (b.y.getD t 0) q x:=by unfold dc;rw [hvs,EE,decide_eq_true hc];rfl
 rw [hr]
 (refine Spec.intro (C:=T.cfg [] []) (rs:= [.t 6]) (T.ak _ _) Tryz.func77 rfl rfl Tryz.ntmps77 Tryz.results77 (by simp [AObj.isNest]) (by simp [AObj.isNest]) (by kernel_rfl) ?_;intro X hX hP hC aK aL vals hA;refine ⟨_,by simp,hA, ?_⟩;have af:X.P.follows .mixedOrders=true:=(by rw [hP];exact T.mixed);clear aK aL)
 repeat' (first|fail|((first|((with_reducible (first|apply oA|apply oB));exact rfl;intro K hK)|(refine hK _ ?_;clear hK K)|((with_reducible (first|apply oG|apply oH));iterate 3 exact rfl)|((with_reducible apply oI);(iterate 2 exact rfl);intro K hK)|(with_reducible (first|apply wI|apply wJ|apply wK)));try simp only [go_sem,simprocAttr,aF,hc1])|fail|(with_reducible (first|apply oC|apply oJ|exact oK|apply wA|apply wB|apply wC hX hC|apply wD hX hC|apply wE hX hC af|apply wF hX hC af|apply wG|apply wH|apply And.intro))|((with_reducible refine oD ?_ ?_);first|fail|kernel_rfl)|((with_reducible (first|apply oE|apply oF));(iterate 3 exact rfl);all_goals (intro h;first|(exact absurd h (by decide))|((try simp only [go_sem,simprocAttr,aF,hc1] at h);(try with_reducible intro K hK);simp only [go_sem,simprocAttr,aF,hc1])))|((first|((with_reducible apply wL);exact rfl)|((with_reducible apply wM);exact rfl));all_goals (try ((with_reducible intro h);first|(exact absurd h (by decide))|(try simp only [go_sem,simprocAttr,aF,hc1] at h))))|omega|((first|first|refine aa hX hC hP (Jy) rfl rfl rfl (by simp only [go_sem,simprocAttr,aF,hc1]) rfl ?_|refine aa hX hC hP (J1) rfl rfl rfl (by simp only [go_sem,simprocAttr,aF,hc1]) rfl ?_);try simp only [go_sem,simprocAttr,aF,hc1])|(intro h))
 refine aj (fun k:Nat=>k≤b.y.length∧∀j,j<k→uX b (b.y.getD s 0) (b.y.getD t 0) q j=false) (fun k=>⟨[(2,eN q),(3, .ptr 3 0),(7,eN (b.y.getD s 0)),(8,eN (b.y.getD t 0)),(43, .d (sI b.y)),(44,eN b.y.length),(45,eN k)], [(3, .box [.d (sI b.y), .d (sI b.fr), .d (sI b.to), .d (sI b.x)])]⟩) (fun k=>b.y.length - k) 0 ⟨by omega,fun j hj=>by omega⟩ ?_ ?_
 ·refine Le.of ?_ ?_<;>simp [go_sem,simprocAttr]
 rintro k ⟨hk,hin⟩
 rcases Nat.lt_or_ge k b.y.length with bD|xo
 rotate_left
 ·have hb:decide ((k:Int)<(b.y.length:Int))=false:=decide_eq_false (by omega)
  obtain rfl:k=b.y.length:=by omega
  rw [fJ (f:=fun x=> !uX b (b.y.getD s 0) (b.y.getD t 0) q x) (fun i hi=>by rw [hin i hi];rfl)]
  repeat' (first|fail|((first|((with_reducible (first|apply oA|apply oB));exact rfl;intro K hK)|(refine hK _ ?_;clear hK K)|((with_reducible (first|apply oG|apply oH));iterate 3 exact rfl)|((with_reducible apply oI);(iterate 2 exact rfl);intro K hK)|(with_reducible (first|apply wI|apply wJ|apply wK)));try simp only [go_sem,simprocAttr,hb])|fail|(with_reducible (first|apply oC|apply oJ|exact oK|apply wA|apply wB|apply wC hX hC|apply wD hX hC|apply wE hX hC af|apply wF hX hC af|apply wG|apply wH|apply And.intro))|((with_reducible refine oD ?_ ?_);first|fail|kernel_rfl)|((with_reducible (first|apply oE|apply oF));(iterate 3 exact rfl);all_goals (intro h;first|(exact absurd h (by decide))|((try simp only [go_sem,simprocAttr,hb] at h);(try with_reducible intro K hK);simp only [go_sem,simprocAttr,hb])))|((first|((with_reducible apply wL);exact rfl)|((with_reducible apply wM);exact rfl));all_goals (try ((with_reducible intro h);first|(exact absurd h (by decide))|(try simp only [go_sem,simprocAttr,hb] at h))))|omega|((first|fail);try simp only [go_sem,simprocAttr,hb])|(intro h))
 have hb:decide ((k:Int)<(b.y.length:Int))=true:=decide_eq_true (by omega)
 have Nz:=hH k bD
 have hap:uX b (b.y.getD s 0) (b.y.getD t 0) q k=(decide (b.y.getD s 0<b.y.getD k 0)&&decide (b.y.getD k 0<b.y.getD t 0)&&hasB b k q):=rfl
 have hno:uX b (b.y.getD s 0) (b.y.getD t 0) q k=true→((List.range b.y.length).all fun x=> !uX b (b.y.getD s 0) (b.y.getD t 0) q x)=false:=fun h1=>eX bD (by rw [h1];rfl)
 have hyes:uX b (b.y.getD s 0) (b.y.getD t 0) q k=false→∀j,j<k+1→uX b (b.y.getD s 0) (b.y.getD t 0) q j=false:=fun h1 j hj=>by
  by_cases sq:j=k
  ·subst sq;exact h1
  ·exact hin j (by omega)
 generalize uX b (b.y.getD s 0) (b.y.getD t 0) q k=av at*
 cases dm:decide (b.y.getD s 0<b.y.getD k 0)<;>cases fk:decide (b.y.getD k 0<b.y.getD t 0)<;>cases jQ:hasB b k q<;>rw [dm,fk,jQ] at hap<;>simp only [Bool.and_true,Bool.and_false,Bool.true_and,Bool.false_and] at hap<;>subst hap<;>rw [jQ] at Nz
 all_goals (
 repeat' (first|fail|((first|((with_reducible (first|apply oA|apply oB));exact rfl;intro K hK)|(refine hK _ ?_;clear hK K)|((with_reducible (first|apply oG|apply oH));iterate 3 exact rfl)|((with_reducible apply oI);(iterate 2 exact rfl);intro K hK)|(with_reducible (first|apply wI|apply wJ|apply wK)));try simp only [go_sem,simprocAttr,aF,hb,dm,fk])|fail|(with_reducible (first|apply oC|apply oJ|exact oK|apply wA|apply wB|apply wC hX hC|apply wD hX hC|apply wE hX hC af|apply wF hX hC af|apply wG|apply wH|apply And.intro))|((with_reducible refine oD ?_ ?_);first|fail|kernel_rfl)|((with_reducible (first|apply oE|apply oF));(iterate 3 exact rfl);all_goals (intro h;first|(exact absurd h (by decide))|((try simp only [go_sem,simprocAttr,aF,hb,dm,fk] at h);(try with_reducible intro K hK);simp only [go_sem,simprocAttr,aF,hb,dm,fk])))|((first|((with_reducible apply wL);exact rfl)|((with_reducible apply wM);exact rfl));all_goals (try ((with_reducible intro h);first|(exact absurd h (by decide))|(try simp only [go_sem,simprocAttr,aF,hb,dm,fk] at h))))|omega|((first|first|(refine aS hX hC hP (Nz) rfl rfl rfl ?_ ?_ rfl ?_;iterate 2 (focus (simp only [go_sem,simprocAttr,aF,hb,dm,fk];done))));try simp only [go_sem,simprocAttr,aF,hb,dm,fk])|(intro h)))
 all_goals (first|(exact hno rfl)|(exact (hno rfl).symm)|(refine ⟨k+1,⟨by omega,hyes rfl⟩, ?_,by omega⟩;refine Le.of ?_ ?_<;>simp [go_sem];done)|trace_state)
def As (g:Gr) (b:Br) (i k:Nat):Bool:=decide (b.x.getD k 0=b.x.getD i 0)&&decide (b.y.getD (tl g i).toNat 0<b.y.getD (hd g k).toNat 0)&&decide (b.y.getD (tl g k).toNat 0<b.y.getD (hd g i).toNat 0)
def C2 (g:Gr) (b:Br) (i:Nat):Bool:=dc b (tl g i).toNat (hd g i).toNat (b.x.getD i 0)&&(List.range i).all fun k=> !As g b i k
def bX (g:Gr) (b:Br):Bool:=decide ((bH g).1=0)&&lH b g&&jJ b&&(List.range g.es.length).all (C2 g b)
theorem jK (g:Gr) (b:Br) (hl:g.es.length≤1000) (au:b.y.length≤1000) (an:b.x.length≤1000):Spec Tryz.prog 41 (Args [eG g,aF b]) [] (eB (bX g b)) []:=by
 have J2:=gK g hl
 have Jz:=Ar b g
 by_cases hc:(bH g).1=0
 rotate_left
 ·have hr:bX g b=false:=by unfold bX;rw [decide_eq_false hc];rfl
  have hc0:decide ((bH g).1=0)=false:=decide_eq_false hc
  rw [hr]
  (refine Spec.intro (C:=T.cfg [] []) (rs:= [.t 4]) (T.ak _ _) Tryz.func41 rfl rfl Tryz.ntmps41 Tryz.results41 (by simp [AObj.isNest]) (by simp [AObj.isNest]) (by kernel_rfl) ?_;intro X hX hP hC aK aL vals hA;refine ⟨_,by simp,hA, ?_⟩;have af:X.P.follows .mixedOrders=true:=(by rw [hP];exact T.mixed);clear aK aL)
  repeat' (first|fail|((first|((with_reducible (first|apply oA|apply oB));exact rfl;intro K hK)|(refine hK _ ?_;clear hK K)|((with_reducible (first|apply oG|apply oH));iterate 3 exact rfl)|((with_reducible apply oI);(iterate 2 exact rfl);intro K hK)|(with_reducible (first|apply wI|apply wJ|apply wK)));try simp only [go_sem,simprocAttr,eF,aF,hc0])|fail|(with_reducible (first|apply oC|apply oJ|exact oK|apply wA|apply wB|apply wC hX hC|apply wD hX hC|apply wE hX hC af|apply wF hX hC af|apply wG|apply wH|apply And.intro))|((with_reducible refine oD ?_ ?_);first|fail|kernel_rfl)|((with_reducible (first|apply oE|apply oF));(iterate 3 exact rfl);all_goals (intro h;first|(exact absurd h (by decide))|((try simp only [go_sem,simprocAttr,eF,aF,hc0] at h);(try with_reducible intro K hK);simp only [go_sem,simprocAttr,eF,aF,hc0])))|((first|((with_reducible apply wL);exact rfl)|((with_reducible apply wM);exact rfl));all_goals (try ((with_reducible intro h);first|(exact absurd h (by decide))|(try simp only [go_sem,simprocAttr,eF,aF,hc0] at h))))|omega|((first|first|refine aa hX hC hP (J2) rfl rfl rfl (by simp only [go_sem,simprocAttr,eF,aF,hc0]) rfl ?_);try simp only [go_sem,simprocAttr,eF,aF,hc0])|(intro h))
 have hc0:decide ((bH g).1=0)=true:=decide_eq_true hc
 cases C3:lH b g with
 |false=>
  have hr:bX g b=false:=by unfold bX;rw [C3];simp
  rw [hr]
  rw [C3] at Jz
  (refine Spec.intro (C:=T.cfg [] []) (rs:= [.t 4]) (T.ak _ _) Tryz.func41 rfl rfl Tryz.ntmps41 Tryz.results41 (by simp [AObj.isNest]) (by simp [AObj.isNest]) (by kernel_rfl) ?_;intro X hX hP hC aK aL vals hA;refine ⟨_,by simp,hA, ?_⟩;have af:X.P.follows .mixedOrders=true:=(by rw [hP];exact T.mixed);clear aK aL)
  repeat' (first|fail|((first|((with_reducible (first|apply oA|apply oB));exact rfl;intro K hK)|(refine hK _ ?_;clear hK K)|((with_reducible (first|apply oG|apply oH));iterate 3 exact rfl)|((with_reducible apply oI);(iterate 2 exact rfl);intro K hK)|(with_reducible (first|apply wI|apply wJ|apply wK)));try simp only [go_sem,simprocAttr,eF,aF,hc0])|fail|(with_reducible (first|apply oC|apply oJ|exact oK|apply wA|apply wB|apply wC hX hC|apply wD hX hC|apply wE hX hC af|apply wF hX hC af|apply wG|apply wH|apply And.intro))|((with_reducible refine oD ?_ ?_);first|fail|kernel_rfl)|((with_reducible (first|apply oE|apply oF));(iterate 3 exact rfl);all_goals (intro h;first|(exact absurd h (by decide))|((try simp only [go_sem,simprocAttr,eF,aF,hc0] at h);(try with_reducible intro K hK);simp only [go_sem,simprocAttr,eF,aF,hc0])))|((first|((with_reducible apply wL);exact rfl)|((with_reducible apply wM);exact rfl));all_goals (try ((with_reducible intro h);first|(exact absurd h (by decide))|(try simp only [go_sem,simprocAttr,eF,aF,hc0] at h))))|omega|((first|first|refine aa hX hC hP (J2) rfl rfl rfl (by simp only [go_sem,simprocAttr,eF,aF,hc0]) rfl ?_|refine aa hX hC hP (Jz) rfl rfl rfl (by simp only [go_sem,simprocAttr,eF,aF,hc0]) rfl ?_);try simp only [go_sem,simprocAttr,eF,aF,hc0])|(intro h))
 |true=>
 rw [C3] at Jz
 have hm:=aC hc
 have hn:=aW hm
 have CL:=C3
 simp only [lH,Bool.and_eq_true,decide_eq_true_eq] at CL
 obtain ⟨⟨⟨l1,l2⟩,l3⟩,l4⟩:=CL
 have J3:=apart_spec b (by omega) (by omega) (by omega)
 cases hap:jJ b with
 |false=>
  have hr:bX g b=false:=by unfold bX;rw [hap];simp
  rw [hr]
  rw [hap] at J3
  (refine Spec.intro (C:=T.cfg [] []) (rs:= [.t 4]) (T.ak _ _) Tryz.func41 rfl rfl Tryz.ntmps41 Tryz.results41 (by simp [AObj.isNest]) (by simp [AObj.isNest]) (by kernel_rfl) ?_;intro X hX hP hC aK aL vals hA;refine ⟨_,by simp,hA, ?_⟩;have af:X.P.follows .mixedOrders=true:=(by rw [hP];exact T.mixed);clear aK aL)
  repeat' (first|fail|((first|((with_reducible (first|apply oA|apply oB));exact rfl;intro K hK)|(refine hK _ ?_;clear hK K)|((with_reducible (first|apply oG|apply oH));iterate 3 exact rfl)|((with_reducible apply oI);(iterate 2 exact rfl);intro K hK)|(with_reducible (first|apply wI|apply wJ|apply wK)));try simp only [go_sem,simprocAttr,eF,aF,hc0])|fail|(with_reducible (first|apply oC|apply oJ|exact oK|apply wA|apply wB|apply wC hX hC|apply wD hX hC|apply wE hX hC af|apply wF hX hC af|apply wG|apply wH|apply And.intro))|((with_reducible refine oD ?_ ?_);first|fail|kernel_rfl)|((with_reducible (first|apply oE|apply oF));(iterate 3 exact rfl);all_goals (intro h;first|(exact absurd h (by decide))|((try simp only [go_sem,simprocAttr,eF,aF,hc0] at h);(try with_reducible intro K hK);simp only [go_sem,simprocAttr,eF,aF,hc0])))|((first|((with_reducible apply wL);exact rfl)|((with_reducible apply wM);exact rfl));all_goals (try ((with_reducible intro h);first|(exact absurd h (by decide))|(try simp only [go_sem,simprocAttr,eF,aF,hc0] at h))))|omega|((first|first|refine aa hX hC hP (J2) rfl rfl rfl (by simp only [go_sem,simprocAttr,eF,aF,hc0]) rfl ?_|refine aa hX hC hP (Jz) rfl rfl rfl (by simp only [go_sem,simprocAttr,eF,aF,hc0]) rfl ?_|refine aa hX hC hP (J3) rfl rfl rfl (by simp only [go_sem,simprocAttr,eF,aF,hc0]) rfl ?_);try simp only [go_sem,simprocAttr,eF,aF,hc0])|(intro h))
 |true=>
 rw [hap] at J3
 have hr:bX g b=(List.range g.es.length).all (C2 g b):=by unfold bX;rw [hc0,C3,hap];rfl
 rw [hr]
 (refine Spec.intro (C:=T.cfg [] []) (rs:= [.t 4]) (T.ak _ _) Tryz.func41 rfl rfl Tryz.ntmps41 Tryz.results41 (by simp [AObj.isNest]) (by simp [AObj.isNest]) (by kernel_rfl) ?_;intro X hX hP hC aK aL vals hA;refine ⟨_,by simp,hA, ?_⟩;have af:X.P.follows .mixedOrders=true:=(by rw [hP];exact T.mixed);clear aK aL)
 repeat' (first|fail|((first|((with_reducible (first|apply oA|apply oB));exact rfl;intro K hK)|(refine hK _ ?_;clear hK K)|((with_reducible (first|apply oG|apply oH));iterate 3 exact rfl)|((with_reducible apply oI);(iterate 2 exact rfl);intro K hK)|(with_reducible (first|apply wI|apply wJ|apply wK)));try simp only [go_sem,simprocAttr,eF,aF,hc0])|fail|(with_reducible (first|apply oC|apply oJ|exact oK|apply wA|apply wB|apply wC hX hC|apply wD hX hC|apply wE hX hC af|apply wF hX hC af|apply wG|apply wH|apply And.intro))|((with_reducible refine oD ?_ ?_);first|fail|kernel_rfl)|((with_reducible (first|apply oE|apply oF));(iterate 3 exact rfl);all_goals (intro h;first|(exact absurd h (by decide))|((try simp only [go_sem,simprocAttr,eF,aF,hc0] at h);(try with_reducible intro K hK);simp only [go_sem,simprocAttr,eF,aF,hc0])))|((first|((with_reducible apply wL);exact rfl)|((with_reducible apply wM);exact rfl));all_goals (try ((with_reducible intro h);first|(exact absurd h (by decide))|(try simp only [go_sem,simprocAttr,eF,aF,hc0] at h))))|omega|((first|first|refine aa hX hC hP (J2) rfl rfl rfl (by simp only [go_sem,simprocAttr,eF,aF,hc0]) rfl ?_|refine aa hX hC hP (Jz) rfl rfl rfl (by simp only [go_sem,simprocAttr,eF,aF,hc0]) rfl ?_|refine aa hX hC hP (J3) rfl rfl rfl (by simp only [go_sem,simprocAttr,eF,aF,hc0]) rfl ?_);try simp only [go_sem,simprocAttr,eF,aF,hc0])|(intro h))
 refine aj (fun i:Nat=>i≤g.es.length∧∀j,j<i→C2 g b j=true) (fun i=>⟨[(2, .ptr 2 0),(3, .ptr 3 0),(25, .d (sE g.es)),(26,eN g.es.length),(27,eN i)], [(2, .box [eN g.n, .d (sE g.es)]),(3, .box [.d (sI b.y), .d (sI b.fr), .d (sI b.to), .d (sI b.x)])]⟩) (fun i=>g.es.length - i) 0 ⟨by omega,fun j hj=>by omega⟩ ?_ ?_
 ·refine Le.of ?_ ?_<;>simp [go_sem,simprocAttr,aF]
 rintro i ⟨hi,hin⟩
 rcases Nat.lt_or_ge i g.es.length with hil|IW
 rotate_left
 ·have dI:decide ((i:Int)<(g.es.length:Int))=false:=decide_eq_false (by omega)
  obtain rfl:i=g.es.length:=by omega
  rw [fJ hin]
  repeat' (first|fail|((first|((with_reducible (first|apply oA|apply oB));exact rfl;intro K hK)|(refine hK _ ?_;clear hK K)|((with_reducible (first|apply oG|apply oH));iterate 3 exact rfl)|((with_reducible apply oI);(iterate 2 exact rfl);intro K hK)|(with_reducible (first|apply wI|apply wJ|apply wK)));try simp only [go_sem,simprocAttr,dI])|fail|(with_reducible (first|apply oC|apply oJ|exact oK|apply wA|apply wB|apply wC hX hC|apply wD hX hC|apply wE hX hC af|apply wF hX hC af|apply wG|apply wH|apply And.intro))|((with_reducible refine oD ?_ ?_);first|fail|kernel_rfl)|((with_reducible (first|apply oE|apply oF));(iterate 3 exact rfl);all_goals (intro h;first|(exact absurd h (by decide))|((try simp only [go_sem,simprocAttr,dI] at h);(try with_reducible intro K hK);simp only [go_sem,simprocAttr,dI])))|((first|((with_reducible apply wL);exact rfl)|((with_reducible apply wM);exact rfl));all_goals (try ((with_reducible intro h);first|(exact absurd h (by decide))|(try simp only [go_sem,simprocAttr,dI] at h))))|omega|((first|fail);try simp only [go_sem,simprocAttr,dI])|(intro h))
 have dI:decide ((i:Int)<(g.es.length:Int))=true:=decide_eq_true (by omega)
 obtain ⟨t1,t2⟩:=c9 hm hil
 obtain ⟨s,hs⟩:∃s:Nat,(g.es.getD i (0,0)).1=s:=⟨(g.es.getD i (0,0)).1.toNat,by omega⟩
 obtain ⟨t,ht⟩:∃t:Nat,(g.es.getD i (0,0)).2=t:=⟨(g.es.getD i (0,0)).2.toNat,by omega⟩
 have hts:(tl g i).toNat=s:=by show ((g.es.getD i (0,0)).1).toNat=s;rw [hs];rfl
 have vi:(hd g i).toNat=t:=by show ((g.es.getD i (0,0)).2).toNat=t;rw [ht];rfl
 have Ey:=x5 b s t (b.x.getD i 0) (by omega) (by omega) (by omega) (by omega) (by omega)
 have kM:C2 g b i=(dc b s t (b.x.getD i 0)&&(List.range i).all fun k=> !As g b i k):=by unfold C2;rw [hts,vi]
 cases mj:dc b s t (b.x.getD i 0) with
 |false=>
  rw [mj] at Ey
  rw [eX hil (f:=C2 g b) (by rw [kM,mj];rfl)]
  repeat' (first|fail|((first|((with_reducible (first|apply oA|apply oB));exact rfl;intro K hK)|(refine hK _ ?_;clear hK K)|((with_reducible (first|apply oG|apply oH));iterate 3 exact rfl)|((with_reducible apply oI);(iterate 2 exact rfl);intro K hK)|(with_reducible (first|apply wI|apply wJ|apply wK)));try simp only [go_sem,simprocAttr,aF,dI,hs,ht])|fail|(with_reducible (first|apply oC|apply oJ|exact oK|apply wA|apply wB|apply wC hX hC|apply wD hX hC|apply wE hX hC af|apply wF hX hC af|apply wG|apply wH|apply And.intro))|((with_reducible refine oD ?_ ?_);first|fail|kernel_rfl)|((with_reducible (first|apply oE|apply oF));(iterate 3 exact rfl);all_goals (intro h;first|(exact absurd h (by decide))|((try simp only [go_sem,simprocAttr,aF,dI,hs,ht] at h);(try with_reducible intro K hK);simp only [go_sem,simprocAttr,aF,dI,hs,ht])))|((first|((with_reducible apply wL);exact rfl)|((with_reducible apply wM);exact rfl));all_goals (try ((with_reducible intro h);first|(exact absurd h (by decide))|(try simp only [go_sem,simprocAttr,aF,dI,hs,ht] at h))))|omega|((first|first|(refine aS hX hC hP (Ey) rfl rfl rfl ?_ ?_ rfl ?_;iterate 2 (focus (simp only [go_sem,simprocAttr,aF,dI,hs,ht];done))));try simp only [go_sem,simprocAttr,aF,dI,hs,ht])|(intro h))
 |true=>
 rw [mj] at Ey kM
 rw [Bool.true_and] at kM
 repeat' (first|fail|((first|((with_reducible (first|apply oA|apply oB));exact rfl;intro K hK)|(refine hK _ ?_;clear hK K)|((with_reducible (first|apply oG|apply oH));iterate 3 exact rfl)|((with_reducible apply oI);(iterate 2 exact rfl);intro K hK)|(with_reducible (first|apply wI|apply wJ|apply wK)));try simp only [go_sem,simprocAttr,aF,dI,hs,ht])|fail|(with_reducible (first|apply oC|apply oJ|exact oK|apply wA|apply wB|apply wC hX hC|apply wD hX hC|apply wE hX hC af|apply wF hX hC af|apply wG|apply wH|apply And.intro))|((with_reducible refine oD ?_ ?_);first|fail|kernel_rfl)|((with_reducible (first|apply oE|apply oF));(iterate 3 exact rfl);all_goals (intro h;first|(exact absurd h (by decide))|((try simp only [go_sem,simprocAttr,aF,dI,hs,ht] at h);(try with_reducible intro K hK);simp only [go_sem,simprocAttr,aF,dI,hs,ht])))|((first|((with_reducible apply wL);exact rfl)|((with_reducible apply wM);exact rfl));all_goals (try ((with_reducible intro h);first|(exact absurd h (by decide))|(try simp only [go_sem,simprocAttr,aF,dI,hs,ht] at h))))|omega|((first|first|(refine aS hX hC hP (Ey) rfl rfl rfl ?_ ?_ rfl ?_;iterate 2 (focus (simp only [go_sem,simprocAttr,aF,dI,hs,ht];done))));try simp only [go_sem,simprocAttr,aF,dI,hs,ht])|(intro h))
 refine aj (fun k:Nat=>k≤i∧∀j,j<k→As g b i j=false) (fun k=>⟨[(2, .ptr 2 0),(3, .ptr 3 0),(5,eN i),(6, .ptr 6 0),(25, .d (sE g.es)),(26,eN g.es.length),(27,eN i),(44, .d (.sl 2 ((g.es.map rE).take i))),(45,eN i),(46,eN k)], [(2, .box [eN g.n, .d (sE g.es)]),(3, .box [.d (sI b.y), .d (sI b.fr), .d (sI b.to), .d (sI b.x)]),(6, .box [eN s,eN t])]⟩) (fun k=>i - k) 0 ⟨by omega,fun j hj=>by omega⟩ ?_ ?_
 ·refine Le.of ?_ ?_<;>simp [go_sem,simprocAttr]
  all_goals omega
 rintro k ⟨hk,CM⟩
 rcases Nat.lt_or_ge k i with bD|xo
 rotate_left
 ·have nP:decide ((k:Int)<(i:Int))=false:=decide_eq_false (by omega)
  obtain rfl:k=i:=by omega
  repeat' (first|fail|((first|((with_reducible (first|apply oA|apply oB));exact rfl;intro K hK)|(refine hK _ ?_;clear hK K)|((with_reducible (first|apply oG|apply oH));iterate 3 exact rfl)|((with_reducible apply oI);(iterate 2 exact rfl);intro K hK)|(with_reducible (first|apply wI|apply wJ|apply wK)));try simp only [go_sem,simprocAttr,nP])|fail|(with_reducible (first|apply oC|apply oJ|exact oK|apply wA|apply wB|apply wC hX hC|apply wD hX hC|apply wE hX hC af|apply wF hX hC af|apply wG|apply wH|apply And.intro))|((with_reducible refine oD ?_ ?_);first|fail|kernel_rfl)|((with_reducible (first|apply oE|apply oF));(iterate 3 exact rfl);all_goals (intro h;first|(exact absurd h (by decide))|((try simp only [go_sem,simprocAttr,nP] at h);(try with_reducible intro K hK);simp only [go_sem,simprocAttr,nP])))|((first|((with_reducible apply wL);exact rfl)|((with_reducible apply wM);exact rfl));all_goals (try ((with_reducible intro h);first|(exact absurd h (by decide))|(try simp only [go_sem,simprocAttr,nP] at h))))|omega|((first|fail);try simp only [go_sem,simprocAttr,nP])|(intro h))
  refine ⟨k+1,⟨by omega,fun j hj=> ?_⟩, ?_,by omega⟩
  ·by_cases hjk:j=k
   ·subst hjk
    rw [kM,fJ (f:=fun z=> !As g b j z) (fun z hz=>by rw [CM z hz];rfl)]
   ·exact hin j (by omega)
  ·refine Le.of ?_ ?_<;>simp [go_sem,simprocAttr,nP]
 have nP:decide ((k:Int)<(i:Int))=true:=decide_eq_true (by omega)
 obtain ⟨t3,t4⟩:=c9 hm (k:=k) (by omega)
 obtain ⟨s',hs'⟩:∃s':Nat,(g.es.getD k (0,0)).1=s':=⟨(g.es.getD k (0,0)).1.toNat,by omega⟩
 obtain ⟨t',ht'⟩:∃t':Nat,(g.es.getD k (0,0)).2=t':=⟨(g.es.getD k (0,0)).2.toNat,by omega⟩
 have FO:(tl g k).toNat=s':=by show ((g.es.getD k (0,0)).1).toNat=s';rw [hs'];rfl
 have FP:(hd g k).toNat=t':=by show ((g.es.getD k (0,0)).2).toNat=t';rw [ht'];rfl
 have uM:∀d,((g.es.map rE).take i).getD k d= [.sc (.int .i64 (s':Int)), .sc (.int .i64 (t':Int))]:=fun d=>by
  rw [List.getD_eq_getElem?_getD,List.getElem?_take,if_pos bD,List.getElem?_map]
  have e:g.es[k]? =some (g.es.getD k (0,0)):=by rw [List.getD_eq_getElem?_getD,List.getElem?_eq_getElem (by omega)];rfl
  rw [e]
  show rE (g.es.getD k (0,0))=_
  rw [show g.es.getD k (0,0)=((s':Int),(t':Int)) from Prod.ext hs' ht'];rfl
 have tV:((g.es.map rE).take i).length=i:=by rw [List.length_take,List.length_map];omega
 have MD:As g b i k=(decide (b.x.getD k 0=b.x.getD i 0)&&decide (b.y.getD s 0<b.y.getD t' 0)&&decide (b.y.getD s' 0<b.y.getD t 0)):=by unfold As;rw [hts,vi,FO,FP]
 have hno:As g b i k=true→(List.range g.es.length).all (C2 g b)=false:=fun h1=>eX hil (by rw [kM];exact eX (f:=fun z=> !As g b i z) bD (by rw [h1];rfl))
 have hyes:As g b i k=false→∀j,j<k+1→As g b i j=false:=fun h1 j hj=>by
  by_cases sq:j=k
  ·subst sq;exact h1
  ·exact CM j (by omega)
 generalize As g b i k=av at*
 generalize (g.es.map rE).take i=T1 at*
 cases dm:decide (b.x.getD k 0=b.x.getD i 0)<;>cases fk:decide (b.y.getD s 0<b.y.getD t' 0)<;>cases jQ:decide (b.y.getD s' 0<b.y.getD t 0)<;>rw [dm,fk,jQ] at MD<;>simp only [Bool.and_true,Bool.and_false,Bool.true_and,Bool.false_and] at MD<;>subst MD
 all_goals (
 repeat' (first|fail|((first|((with_reducible (first|apply oA|apply oB));exact rfl;intro K hK)|(refine hK _ ?_;clear hK K)|((with_reducible (first|apply oG|apply oH));iterate 3 exact rfl)|((with_reducible apply oI);(iterate 2 exact rfl);intro K hK)|(with_reducible (first|apply wI|apply wJ|apply wK)));try simp only [go_sem,simprocAttr,nP,dm,fk,jQ,uM,tV])|fail|(with_reducible (first|apply oC|apply oJ|exact oK|apply wA|apply wB|apply wC hX hC|apply wD hX hC|apply wE hX hC af|apply wF hX hC af|apply wG|apply wH|apply And.intro))|((with_reducible refine oD ?_ ?_);first|fail|kernel_rfl)|((with_reducible (first|apply oE|apply oF));(iterate 3 exact rfl);all_goals (intro h;first|(exact absurd h (by decide))|((try simp only [go_sem,simprocAttr,nP,dm,fk,jQ,uM,tV] at h);(try with_reducible intro K hK);simp only [go_sem,simprocAttr,nP,dm,fk,jQ,uM,tV])))|((first|((with_reducible apply wL);exact rfl)|((with_reducible apply wM);exact rfl));all_goals (try ((with_reducible intro h);first|(exact absurd h (by decide))|(try simp only [go_sem,simprocAttr,nP,dm,fk,jQ,uM,tV] at h))))|omega|((first|fail);try simp only [go_sem,simprocAttr,nP,dm,fk,jQ,uM,tV])|(intro h)))
 all_goals (first|(exact hno rfl)|(exact (hno rfl).symm)|(refine ⟨k+1,⟨by omega,hyes rfl⟩, ?_,by omega⟩;refine Le.of ?_ ?_<;>simp [go_sem];done)|trace_state)
end Go.Ab
end
section
namespace Go.Ab
open Go.Proofs
attribute [local congr] ACall.congr
set_option maxRecDepth 20000
set_option maxHeartbeats 32000000
theorem wW (b:Br) (x:Nat) (q:Int) (h1:x<b.fr.length) (h2:x<b.to.length) (hl:b.fr.length≤100000):Spec Tryz.prog 73 (Args [aF b,eN x,eN q]) [] (eB (hasB b x q)) []:=by
 cases hc:decide (b.fr.getD x 0≤q) with
 |false=>
  have hr:hasB b x q=false:=by unfold hasB;rw [hc];rfl
  rw [hr]
  (refine Spec.intro (C:=T.cfg [] []) (rs:= [.t 6]) (T.ak _ _) Tryz.func73 rfl rfl Tryz.ntmps73 Tryz.results73 (by simp [AObj.isNest]) (by simp [AObj.isNest]) (by kernel_rfl) ?_;intro X hX hP hC aK aL vals hA;refine ⟨_,by simp,hA, ?_⟩;have af:X.P.follows .mixedOrders=true:=(by rw [hP];exact T.mixed);clear aK aL)
  repeat' (first|fail|((first|((with_reducible (first|apply oA|apply oB));exact rfl;intro K hK)|(refine hK _ ?_;clear hK K)|((with_reducible (first|apply oG|apply oH));iterate 3 exact rfl)|((with_reducible apply oI);(iterate 2 exact rfl);intro K hK)|(with_reducible (first|apply wI|apply wJ|apply wK)));try simp only [go_sem,simprocAttr,aF,hc])|fail|(with_reducible (first|apply oC|apply oJ|exact oK|apply wA|apply wB|apply wC hX hC|apply wD hX hC|apply wE hX hC af|apply wF hX hC af|apply wG|apply wH|apply And.intro))|((with_reducible refine oD ?_ ?_);first|fail|kernel_rfl)|((with_reducible (first|apply oE|apply oF));(iterate 3 exact rfl);all_goals (intro h;first|(exact absurd h (by decide))|((try simp only [go_sem,simprocAttr,aF,hc] at h);(try with_reducible intro K hK);simp only [go_sem,simprocAttr,aF,hc])))|((first|((with_reducible apply wL);exact rfl)|((with_reducible apply wM);exact rfl));all_goals (try ((with_reducible intro h);first|(exact absurd h (by decide))|(try simp only [go_sem,simprocAttr,aF,hc] at h))))|omega|((first|fail);try simp only [go_sem,simprocAttr,aF,hc])|(intro h))
 |true=>
  have hr:hasB b x q=decide (q≤b.to.getD x 0):=by unfold hasB;rw [hc];rfl
  rw [hr]
  (refine Spec.intro (C:=T.cfg [] []) (rs:= [.t 6]) (T.ak _ _) Tryz.func73 rfl rfl Tryz.ntmps73 Tryz.results73 (by simp [AObj.isNest]) (by simp [AObj.isNest]) (by kernel_rfl) ?_;intro X hX hP hC aK aL vals hA;refine ⟨_,by simp,hA, ?_⟩;have af:X.P.follows .mixedOrders=true:=(by rw [hP];exact T.mixed);clear aK aL)
  repeat' (first|fail|((first|((with_reducible (first|apply oA|apply oB));exact rfl;intro K hK)|(refine hK _ ?_;clear hK K)|((with_reducible (first|apply oG|apply oH));iterate 3 exact rfl)|((with_reducible apply oI);(iterate 2 exact rfl);intro K hK)|(with_reducible (first|apply wI|apply wJ|apply wK)));try simp only [go_sem,simprocAttr,aF,hc])|fail|(with_reducible (first|apply oC|apply oJ|exact oK|apply wA|apply wB|apply wC hX hC|apply wD hX hC|apply wE hX hC af|apply wF hX hC af|apply wG|apply wH|apply And.intro))|((with_reducible refine oD ?_ ?_);first|fail|kernel_rfl)|((with_reducible (first|apply oE|apply oF));(iterate 3 exact rfl);all_goals (intro h;first|(exact absurd h (by decide))|((try simp only [go_sem,simprocAttr,aF,hc] at h);(try with_reducible intro K hK);simp only [go_sem,simprocAttr,aF,hc])))|((first|((with_reducible apply wL);exact rfl)|((with_reducible apply wM);exact rfl));all_goals (try ((with_reducible intro h);first|(exact absurd h (by decide))|(try simp only [go_sem,simprocAttr,aF,hc] at h))))|omega|((first|fail);try simp only [go_sem,simprocAttr,aF,hc])|(intro h))
def C4 (b:Br) (x z:Nat):Bool:= !decide ((x:Int)=(z:Int))&&decide (b.y.getD x 0=b.y.getD z 0)&& !(decide (b.to.getD x 0<b.fr.getD z 0)||decide (b.to.getD z 0<b.fr.getD x 0))
def CN (b:Br) (n x:Nat):Bool:=decide (b.fr.getD x 0≤b.to.getD x 0)&&(List.range n).all fun z=> !C4 b x z
def AD (g:Gr) (b:Br) (i k:Nat):Bool:= !decide ((k:Int)=(i:Int))&&decide (b.x.getD k 0=b.x.getD i 0)&& !(decide (b.y.getD (hd g i).toNat 0≤b.y.getD (tl g k).toNat 0)||decide (b.y.getD (hd g k).toNat 0≤b.y.getD (tl g i).toNat 0))
def CO (g:Gr) (b:Br) (i:Nat):Bool:=dc b (tl g i).toNat (hd g i).toNat (b.x.getD i 0)&&(List.range g.es.length).all fun k=> !AD g b i k
def eH (g:Gr) (b:Br):Bool:=decide ((bH g).1=0)&&lH b g&&(List.range b.y.length).all (CN b b.y.length)&&(List.range g.es.length).all (CO g b)
theorem wX (g:Gr) (b:Br):eH g b=bX g b:=by
 have e1:(List.range b.y.length).all (CN b b.y.length)=jJ b:=by
  rw [Bool.eq_iff_iff]
  unfold jJ
  simp only [List.all_eq_true,List.mem_range,CN,FN,Bool.and_eq_true,decide_eq_true_eq,Bool.not_eq_true',C4,CJ,Bool.and_eq_false_iff,Bool.or_eq_false_iff,Bool.not_eq_false',Bool.or_eq_true,decide_eq_false_iff_not,Bool.not_eq_eq_eq_not,Bool.not_true,Bool.not_false]
  constructor
  ·intro h x hx
   refine ⟨(h x hx).1,fun z hz=> ?_⟩
   have:=(h x hx).2 z (by omega)
   omega
  ·intro h x hx
   refine ⟨(h x hx).1,fun z hz=> ?_⟩
   rcases Nat.lt_trichotomy x z with h1|h1|h1
   ·have:=(h z hz).2 x h1;omega
   ·omega
   ·have:=(h x hx).2 z h1;omega
 have e2:(List.range g.es.length).all (CO g b)=(List.range g.es.length).all (C2 g b):=by
  rw [Bool.eq_iff_iff]
  simp only [List.all_eq_true,List.mem_range,CO,C2,Bool.and_eq_true,decide_eq_true_eq,Bool.not_eq_true',AD,As,Bool.and_eq_false_iff,Bool.or_eq_false_iff,Bool.not_eq_false',Bool.or_eq_true,decide_eq_false_iff_not,Bool.not_eq_eq_eq_not,Bool.not_true,Bool.not_false]
  constructor
  ·intro h i hi
   refine ⟨(h i hi).1,fun k hk=> ?_⟩
   have:=(h i hi).2 k (by omega)
   omega
  ·intro h i hi
   refine ⟨(h i hi).1,fun k hk=> ?_⟩
   rcases Nat.lt_trichotomy i k with h1|h1|h1
   ·have:=(h k hk).2 i h1;omega
   ·omega
   ·have:=(h i hi).2 k h1;omega
 unfold eH bX
 rw [e1,e2]
end Go.Ab
end
