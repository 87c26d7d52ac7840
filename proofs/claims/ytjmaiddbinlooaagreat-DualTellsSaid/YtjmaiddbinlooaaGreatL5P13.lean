/- A part of the proof. -/
import Derived.Test.YtjmaiddbinlooaaGreatL5P12
set_option linter.unusedSimpArgs false
set_option linter.unusedVariables false
section
namespace Go.Ab
open Go.Proofs
attribute [local congr] ACall.congr
set_option maxRecDepth 10000
def uH (g:Gr):List Bool:=fD g g.n.toNat
theorem k6 {g:Gr} :fD g g.n.toNat=uH g:=rfl
def Dk (g:Gr):Int:=if bU (fun b:Bool=>b) (uH g)<0 then g.n else bU (fun b:Bool=>b) (uH g)
def uI (g:Gr) (x:Int) (b:Int) (i:Nat):Int:=if hd g i=x∧(uH g).getD (tl g i).toNat false=true then min b (tl g i) else b
def ef (g:Gr) (x:Int) (k:Nat):Int:=(List.range k).foldl (uI g x) g.n
def mF (g:Gr):Nat→List Int→Int→List Int × Int
 |0,way,x=>(way,x)
 |f+1,way,x=>if x∈way then (way,x) else mF g f (way++ [x]) (ef g x g.es.length)
def gx (g:Gr):Gr:=⟨g.n+1,g.es⟩
def nF (g:Gr):List Int × Int:=mF g (g.n.toNat+1) [] (Dk g)
def pS (l:List Int) (m k:Nat):List Int:=(List.range k).map fun i=>l.getD ((m+l.length - i) % l.length) 0
def td (l:List Int):List Int:=pS l (dB l (gT l)).toNat l.length
def k7 (g:Gr):List Int:=if Dk g=g.n then [] else td ((nF g).1.drop (dB (nF g).1 (nF g).2).toNat)
theorem mG {g:Gr} {x:Int} {k:Nat} :ef g x (k+1)=uI g x (ef g x k) k:=by
 simp [ef,List.range_succ]
theorem pn {g:Gr} (hm:aU g=true) {x:Int} :∀ {k:Nat},k≤g.es.length→0≤ef g x k∧ef g x k≤g.n
 |0,_=>by have:=aZ hm;simp [ef];omega
 |k+1,h=>by
  have ih:=pn hm (x:=x) (k:=k) (by omega)
  obtain ⟨⟨h1,h2⟩,_⟩:=gj hm (k:=k) (by omega)
  rw [mG];unfold uI tl
  split<;>omega
theorem z6 {l:List Int} {m k:Nat} :pS l m (k+1)=pS l m k++ [l.getD ((m+l.length - k) % l.length) 0]:=by
 simp [pS,List.range_succ]
theorem wm {g:Gr} {way:List Int} {a:Int} (h:a∈way):∀f,mF g f way a=(way,a)
 |0=>rfl
 |f+1=>by simp only [mF];rw [if_pos h]
theorem uJ:∀ {l:List Int} {x:Int},x∈l→gT l≤x
 |a::r,x,h=>by
  have:∀(r:List Int) (a:Int),r.foldl min a≤a∧∀x∈r,r.foldl min a≤x:=by
   intro r
   induction r with
   |nil=>intro a;exact ⟨Int.le_refl _,by simp⟩
   |cons b r ih=>
    intro a
    obtain ⟨h1,h2⟩:=ih (min a b)
    simp only [List.foldl_cons]
    refine ⟨by omega,fun x hx=> ?_⟩
    rcases List.mem_cons.1 hx with rfl|hx
    ·omega
    ·exact h2 x hx
  obtain ⟨h1,h2⟩:=this r a
  rcases List.mem_cons.1 h with rfl|h
  ·exact h1
  ·exact h2 x h
theorem gF {l:List Int} {m:Nat} (h:m<l.length):l.getD m 0∈l:=by
 rw [List.getD_eq_getElem?_getD,List.getElem?_eq_getElem h];exact List.getElem_mem h
theorem Cf {l:List Int} {m:Nat} (hm:m<l.length) (h1:∀j,j<l.length→l.getD m 0≤l.getD j 0) (h2:∀j,j<m→l.getD m 0<l.getD j 0):dB l (gT l)=m:=by
 have hmin:gT l=l.getD m 0:=by
  have g1:=uJ (gF hm)
  obtain ⟨j,hj,e⟩:=List.getElem_of_mem (iB (l:=l) (by omega))
  have g2:=h1 j hj
  rw [List.getD_eq_getElem?_getD (l:=l) (i:=j),List.getElem?_eq_getElem hj,Option.getD_some,e] at g2
  omega
 refine dM (d:=0) hm (fun j hj=> ?_) ?_
 ·have:=h2 j hj
  rw [hmin];simp only [decide_eq_false_iff_not];omega
 ·rw [hmin];simp
theorem dF (g:Gr) (hm:aU g=true):Spec Tryz.prog 119 (Args [eG g]) [] (.d (sI (k7 g))) []:=by
 have hn:=aZ hm
 have hlf:(uH g).length=g.n.toNat:=leftK_length
 (refine Spec.intro (C:=T.cfg [] []) (rs:= [.t 2]) (T.aq _ _) Tryz.func119 rfl rfl Tryz.ntmps119 Tryz.results119 (by simp [AObj.isNest]) (by simp [AObj.isNest]) (by kernel_rfl) ?_;intro X hX hP hC aN aO vals hA;refine ⟨_,by simp,hA, ?_⟩;have af:X.P.follows .mixedOrders=true:=(by rw [hP];exact T.mixed);clear aN aO)
 repeat' (first|fail|((first|((with_reducible (first|apply oA|apply oB));exact rfl;intro K hK)|(refine hK _ ?_;clear hK K)|((with_reducible (first|apply oG|apply oH));iterate 3 exact rfl)|((with_reducible apply oI);(iterate 2 exact rfl);intro K hK)|(with_reducible (first|apply wI|apply wJ|apply wK)));try simp only [go_sem,simprocAttr,k6])|fail|(with_reducible (first|apply oC|apply oJ|exact oK|apply wA|apply wB|apply wC hX hC|apply wD hX hC|apply wE hX hC af|apply wF hX hC af|apply wG|apply wH|apply And.intro))|((with_reducible refine oD ?_ ?_);first|fail|kernel_rfl)|((with_reducible (first|apply oE|apply oF));(iterate 3 exact rfl);all_goals (intro h;first|(exact absurd h (by decide))|((try simp only [go_sem,simprocAttr,k6] at h);(try with_reducible intro K hK);simp only [go_sem,simprocAttr,k6])))|((first|((with_reducible apply wL);exact rfl)|((with_reducible apply wM);exact rfl));all_goals (try ((with_reducible intro h);first|(exact absurd h (by decide))|(try simp only [go_sem,simprocAttr,k6] at h))))|omega|((first|first|refine aa hX hC hP (cM g hm) rfl rfl rfl (by simp only [go_sem,simprocAttr,k6]) rfl ?_|(refine ai hX hC hP (bh way x bV) rfl rfl rfl ?_ ?_ ?_ ?_;iterate 3 (focus (simp only [go_sem,simprocAttr,k6];done)))|(refine ai hX hC hP (bh way (a:Int) bV) rfl rfl rfl ?_ ?_ ?_ ?_;iterate 3 (focus (simp only [go_sem,simprocAttr,k6];done))));try simp only [go_sem,simprocAttr,k6])|(intro h))
 refine ak (fun k:Nat=>k≤g.n.toNat∧∀j,j<k→(uH g).getD j false=false) (fun k=>⟨[(1, .ptr 1 0),(4,eN k),(3, .d (sB (uH g)))], [(1, .box [eN g.n, .d (sE g.es)])]⟩) (fun k=>g.n.toNat - k) 0 (by simp) ?_ ?_
 ·refine Le.of ?_ ?_<;>simp [go_sem,simprocAttr,uH]
 rintro k ⟨hk,hno⟩
 rcases Nat.lt_or_ge k g.n.toNat with hlt|hge
 ·have hb:decide ((k:Int)<g.n)=true:=decide_eq_true (by omega)
  cases hkb:(uH g).getD k false with
  |false=>
   repeat' (first|fail|((first|((with_reducible (first|apply oA|apply oB));exact rfl;intro K hK)|(refine hK _ ?_;clear hK K)|((with_reducible (first|apply oG|apply oH));iterate 3 exact rfl)|((with_reducible apply oI);(iterate 2 exact rfl);intro K hK)|(with_reducible (first|apply wI|apply wJ|apply wK)));try simp only [go_sem,simprocAttr,hb,hkb,hlf])|fail|(with_reducible (first|apply oC|apply oJ|exact oK|apply wA|apply wB|apply wC hX hC|apply wD hX hC|apply wE hX hC af|apply wF hX hC af|apply wG|apply wH|apply And.intro))|((with_reducible refine oD ?_ ?_);first|fail|kernel_rfl)|((with_reducible (first|apply oE|apply oF));(iterate 3 exact rfl);all_goals (intro h;first|(exact absurd h (by decide))|((try simp only [go_sem,simprocAttr,hb,hkb,hlf] at h);(try with_reducible intro K hK);simp only [go_sem,simprocAttr,hb,hkb,hlf])))|((first|((with_reducible apply wL);exact rfl)|((with_reducible apply wM);exact rfl));all_goals (try ((with_reducible intro h);first|(exact absurd h (by decide))|(try simp only [go_sem,simprocAttr,hb,hkb,hlf] at h))))|omega|((first|first|refine aa hX hC hP (cM g hm) rfl rfl rfl (by simp only [go_sem,simprocAttr,hb,hkb,hlf]) rfl ?_|(refine ai hX hC hP (bh way x bV) rfl rfl rfl ?_ ?_ ?_ ?_;iterate 3 (focus (simp only [go_sem,simprocAttr,hb,hkb,hlf];done)))|(refine ai hX hC hP (bh way (a:Int) bV) rfl rfl rfl ?_ ?_ ?_ ?_;iterate 3 (focus (simp only [go_sem,simprocAttr,hb,hkb,hlf];done))));try simp only [go_sem,simprocAttr,hb,hkb,hlf])|(intro h))
   refine ⟨k+1,⟨by omega,fun j hj=> ?_⟩, ?_,by omega⟩
   ·by_cases hjk:j=k
    ·subst hjk;exact hkb
    ·exact hno j (by omega)
   ·(refine Le.of ?_ ?_<;>simp [go_sem,simprocAttr,hb,hkb,hlf])
  |true=>
   have hst:Dk g=k:=by
    have:bU (fun b:Bool=>b) (uH g)=k:=dM (d:=false) (by omega) hno hkb
    unfold Dk;rw [this,if_neg (by omega)]
   have hne:decide ((k:Int)=g.n)=false:=decide_eq_false (by omega)
   repeat' (first|fail|((first|((with_reducible (first|apply oA|apply oB));exact rfl;intro K hK)|(refine hK _ ?_;clear hK K)|((with_reducible (first|apply oG|apply oH));iterate 3 exact rfl)|((with_reducible apply oI);(iterate 2 exact rfl);intro K hK)|(with_reducible (first|apply wI|apply wJ|apply wK)));try simp only [go_sem,simprocAttr,hb,hkb,hlf,hne])|fail|(with_reducible (first|apply oC|apply oJ|exact oK|apply wA|apply wB|apply wC hX hC|apply wD hX hC|apply wE hX hC af|apply wF hX hC af|apply wG|apply wH|apply And.intro))|((with_reducible refine oD ?_ ?_);first|fail|kernel_rfl)|((with_reducible (first|apply oE|apply oF));(iterate 3 exact rfl);all_goals (intro h;first|(exact absurd h (by decide))|((try simp only [go_sem,simprocAttr,hb,hkb,hlf,hne] at h);(try with_reducible intro K hK);simp only [go_sem,simprocAttr,hb,hkb,hlf,hne])))|((first|((with_reducible apply wL);exact rfl)|((with_reducible apply wM);exact rfl));all_goals (try ((with_reducible intro h);first|(exact absurd h (by decide))|(try simp only [go_sem,simprocAttr,hb,hkb,hlf,hne] at h))))|omega|((first|first|refine aa hX hC hP (cM g hm) rfl rfl rfl (by simp only [go_sem,simprocAttr,hb,hkb,hlf,hne]) rfl ?_|(refine ai hX hC hP (bh way x bV) rfl rfl rfl ?_ ?_ ?_ ?_;iterate 3 (focus (simp only [go_sem,simprocAttr,hb,hkb,hlf,hne];done)))|(refine ai hX hC hP (bh way (a:Int) bV) rfl rfl rfl ?_ ?_ ?_ ?_;iterate 3 (focus (simp only [go_sem,simprocAttr,hb,hkb,hlf,hne];done))));try simp only [go_sem,simprocAttr,hb,hkb,hlf,hne])|(intro h))
   clear hno hb hne hkb
   (refine dZ hX 5 31 39 (by simp only [go_sem,simprocAttr]) rfl (by first|exact .inl rfl|exact .inr rfl) (by decide) ?_;simp only [go_sem,simprocAttr])
   refine ak (fun i:List Int × Int=>Way (gx g) i.1∧(0≤i.2∧i.2≤g.n)∧mF g (left (gx g) i.1) i.1 i.2=nF g) (fun i=>⟨[(1, .ptr 1 0),(4,eN i.2),(3, .d (sB (uH g))),(5, .ref 39)], [(1, .box [eN g.n, .d (sE g.es)]),(39, .tip 3 1 (i.1.map rI))]⟩) (fun i=>left (gx g) i.1) ([],(k:Int)) ⟨Way.nil _,by simp only;omega, ?_⟩ ?_ ?_
   ·simp only [nE,nF,gx,hst]
    rw [show (g.n+1).toNat=g.n.toNat+1 from by omega]
   ·refine Le.of ?_ ?_<;>simp [go_sem,simprocAttr]
   rintro ⟨way,x⟩ ⟨wk,hx,hrun⟩
   simp only at wk hx hrun ⊢
   have N6:way.length≤65:=by have:=wk.fuel;simp only [gx] at this;omega
   have bV:way.length≤9223372036854775807:=by omega
   by_cases hmem:x∈way
   ·have hend:=wm (g:=g) hmem (left (gx g) way)
    rw [hrun] at hend
    obtain ⟨m,pq,hm2,_⟩:=dr hmem
    have hneg:decide ((m:Int)<0)=false:=decide_eq_false (by omega)
    obtain ⟨l,Cg⟩:∃l,l=way.drop m:=⟨_,rfl⟩
    have kJ:l.length=way.length - m:=by rw [Cg];simp
    have FE:k7 g=td l:=by
     simp only [k7,hend,pq,Int.toNat_natCast, ← Cg]
     rw [if_neg (by omega)]
    repeat' (first|fail|((first|((with_reducible (first|apply oA|apply oB));exact rfl;intro K hK)|(refine hK _ ?_;clear hK K)|((with_reducible (first|apply oG|apply oH));iterate 3 exact rfl)|((with_reducible apply oI);(iterate 2 exact rfl);intro K hK)|(with_reducible (first|apply wI|apply wJ|apply wK)));try simp only [go_sem,simprocAttr,pq,hneg, ← List.map_take, ← List.map_drop,List.take_length, ← Cg])|fail|(with_reducible (first|apply oC|apply oJ|exact oK|apply wA|apply wB|apply wC hX hC|apply wD hX hC|apply wE hX hC af|apply wF hX hC af|apply wG|apply wH|apply And.intro))|((with_reducible refine oD ?_ ?_);first|fail|kernel_rfl)|((with_reducible (first|apply oE|apply oF));(iterate 3 exact rfl);all_goals (intro h;first|(exact absurd h (by decide))|((try simp only [go_sem,simprocAttr,pq,hneg, ← List.map_take, ← List.map_drop,List.take_length, ← Cg] at h);(try with_reducible intro K hK);simp only [go_sem,simprocAttr,pq,hneg, ← List.map_take, ← List.map_drop,List.take_length, ← Cg])))|((first|((with_reducible apply wL);exact rfl)|((with_reducible apply wM);exact rfl));all_goals (try ((with_reducible intro h);first|(exact absurd h (by decide))|(try simp only [go_sem,simprocAttr,pq,hneg, ← List.map_take, ← List.map_drop,List.take_length, ← Cg] at h))))|omega|((first|first|refine aa hX hC hP (cM g hm) rfl rfl rfl (by simp only [go_sem,simprocAttr,pq,hneg, ← List.map_take, ← List.map_drop,List.take_length, ← Cg]) rfl ?_|(refine ai hX hC hP (bh way x bV) rfl rfl rfl ?_ ?_ ?_ ?_;iterate 3 (focus (simp only [go_sem,simprocAttr,pq,hneg, ← List.map_take, ← List.map_drop,List.take_length, ← Cg];done)))|(refine ai hX hC hP (bh way (a:Int) bV) rfl rfl rfl ?_ ?_ ?_ ?_;iterate 3 (focus (simp only [go_sem,simprocAttr,pq,hneg, ← List.map_take, ← List.map_drop,List.take_length, ← Cg];done))));try simp only [go_sem,simprocAttr,pq,hneg, ← List.map_take, ← List.map_drop,List.take_length, ← Cg])|(intro h))
    clear hrun wk hend pq hneg Cg
    have hl0:0<l.length:=by omega
    have hlm:l.length≤65:=by omega
    refine ak (fun i:Nat × Nat=>i.1≤l.length∧i.2<l.length∧(∀j,j<i.1→l.getD i.2 0≤l.getD j 0)∧(∀j,j<i.2→l.getD i.2 0<l.getD j 0)) (fun i=>⟨[(9,eN i.1),(8,eN i.2),(5, .d (sI l))], []⟩) (fun i=>l.length - i.1) (0,0) ⟨by simp,hl0,by simp,by simp⟩ ?_ ?_
    ·refine Le.of ?_ ?_<;>simp [go_sem,simprocAttr]
    rintro ⟨i,q⟩ ⟨hi,hq,hq1,DV⟩
    simp only at hi hq hq1 DV ⊢
    rcases Nat.lt_or_ge i l.length with hil|Ja
    ·have hb:decide ((i:Int)<(l.length:Int))=true:=decide_eq_true (by omega)
     repeat' (first|fail|((first|((with_reducible (first|apply oA|apply oB));exact rfl;intro K hK)|(refine hK _ ?_;clear hK K)|((with_reducible (first|apply oG|apply oH));iterate 3 exact rfl)|((with_reducible apply oI);(iterate 2 exact rfl);intro K hK)|(with_reducible (first|apply wI|apply wJ|apply wK)));try simp only [go_sem,simprocAttr,hb])|fail|(with_reducible (first|apply oC|apply oJ|exact oK|apply wA|apply wB|apply wC hX hC|apply wD hX hC|apply wE hX hC af|apply wF hX hC af|apply wG|apply wH|apply And.intro))|((with_reducible refine oD ?_ ?_);first|fail|kernel_rfl)|((with_reducible (first|apply oE|apply oF));(iterate 3 exact rfl);all_goals (intro h;first|(exact absurd h (by decide))|((try simp only [go_sem,simprocAttr,hb] at h);(try with_reducible intro K hK);simp only [go_sem,simprocAttr,hb])))|((first|((with_reducible apply wL);exact rfl)|((with_reducible apply wM);exact rfl));all_goals (try ((with_reducible intro h);first|(exact absurd h (by decide))|(try simp only [go_sem,simprocAttr,hb] at h))))|omega|((first|first|refine aa hX hC hP (cM g hm) rfl rfl rfl (by simp only [go_sem,simprocAttr,hb]) rfl ?_|(refine ai hX hC hP (bh way x bV) rfl rfl rfl ?_ ?_ ?_ ?_;iterate 3 (focus (simp only [go_sem,simprocAttr,hb];done)))|(refine ai hX hC hP (bh way (a:Int) bV) rfl rfl rfl ?_ ?_ ?_ ?_;iterate 3 (focus (simp only [go_sem,simprocAttr,hb];done))));try simp only [go_sem,simprocAttr,hb])|(intro h))
     ·refine ⟨(i+1,i),⟨by simp only;omega,hil,fun j hj=> ?_,fun j hj=> ?_⟩, ?_,by simp only;omega⟩
      ·simp only at hj ⊢
       by_cases hji:j=i
       ·subst hji;exact Int.le_refl _
       ·have:=hq1 j (by omega);omega
      ·simp only at hj ⊢
       have:=hq1 j hj;omega
      ·refine Le.of ?_ ?_<;>simp [go_sem,simprocAttr]
     ·refine ⟨(i+1,q),⟨by simp only;omega,hq,fun j hj=> ?_,DV⟩, ?_,by simp only;omega⟩
      ·simp only at hj ⊢
       by_cases hji:j=i
       ·subst hji;omega
       ·exact hq1 j (by omega)
      ·refine Le.of ?_ ?_<;>simp [go_sem,simprocAttr]
    ·have hb:decide ((i:Int)<(l.length:Int))=false:=decide_eq_false (by omega)
     obtain rfl:i=l.length:=by omega
     have hidx:=Cf hq hq1 DV
     repeat' (first|fail|((first|((with_reducible (first|apply oA|apply oB));exact rfl;intro K hK)|(refine hK _ ?_;clear hK K)|((with_reducible (first|apply oG|apply oH));iterate 3 exact rfl)|((with_reducible apply oI);(iterate 2 exact rfl);intro K hK)|(with_reducible (first|apply wI|apply wJ|apply wK)));try simp only [go_sem,simprocAttr,hb])|fail|(with_reducible (first|apply oC|apply oJ|exact oK|apply wA|apply wB|apply wC hX hC|apply wD hX hC|apply wE hX hC af|apply wF hX hC af|apply wG|apply wH|apply And.intro))|((with_reducible refine oD ?_ ?_);first|fail|kernel_rfl)|((with_reducible (first|apply oE|apply oF));(iterate 3 exact rfl);all_goals (intro h;first|(exact absurd h (by decide))|((try simp only [go_sem,simprocAttr,hb] at h);(try with_reducible intro K hK);simp only [go_sem,simprocAttr,hb])))|((first|((with_reducible apply wL);exact rfl)|((with_reducible apply wM);exact rfl));all_goals (try ((with_reducible intro h);first|(exact absurd h (by decide))|(try simp only [go_sem,simprocAttr,hb] at h))))|omega|((first|first|refine aa hX hC hP (cM g hm) rfl rfl rfl (by simp only [go_sem,simprocAttr,hb]) rfl ?_|(refine ai hX hC hP (bh way x bV) rfl rfl rfl ?_ ?_ ?_ ?_;iterate 3 (focus (simp only [go_sem,simprocAttr,hb];done)))|(refine ai hX hC hP (bh way (a:Int) bV) rfl rfl rfl ?_ ?_ ?_ ?_;iterate 3 (focus (simp only [go_sem,simprocAttr,hb];done))));try simp only [go_sem,simprocAttr,hb])|(intro h))
     clear hi hb Ja
     (refine dZ hX 10 98 119 (by simp only [go_sem,simprocAttr]) rfl (by first|exact .inl rfl|exact .inr rfl) (by decide) ?_;simp only [go_sem,simprocAttr])
     refine ak (fun i:Nat=>i≤l.length) (fun i=>⟨[(5, .d (sI l)),(8,eN q),(11,eN i),(10, .ref 119)], [(119, .tip 3 1 ((pS l q i).map rI))]⟩) (fun i=>l.length - i) 0 (by simp) ?_ ?_
     ·refine Le.of ?_ ?_<;>simp [go_sem,simprocAttr,pS]
     rintro i hi
     have hrl:(pS l q i).length=i:=by simp [pS]
     rcases Nat.lt_or_ge i l.length with hil|Ja
     ·have hb:decide ((i:Int)<(l.length:Int))=true:=decide_eq_true (by omega)
      have EP:((q:Int)+(l.length:Int) - (i:Int)).tmod (l.length:Int)=(((q+l.length - i) % l.length:Nat):Int):=by
       rw [show (q:Int)+(l.length:Int) - (i:Int)=((q+l.length - i:Nat):Int) from by omega]
       rw [Int.tmod_eq_emod_of_nonneg (by omega)];rfl
      have hmod:(q+l.length - i) % l.length<l.length:=Nat.mod_lt _ hl0
      repeat' (first|fail|((first|((with_reducible (first|apply oA|apply oB));exact rfl;intro K hK)|(refine hK _ ?_;clear hK K)|((with_reducible (first|apply oG|apply oH));iterate 3 exact rfl)|((with_reducible apply oI);(iterate 2 exact rfl);intro K hK)|(with_reducible (first|apply wI|apply wJ|apply wK)));try simp only [go_sem,simprocAttr,hb,EP])|fail|(with_reducible (first|apply oC|apply oJ|exact oK|apply wA|apply wB|apply wC hX hC|apply wD hX hC|apply wE hX hC af|apply wF hX hC af|apply wG|apply wH|apply And.intro))|((with_reducible refine oD ?_ ?_);first|fail|kernel_rfl)|((with_reducible (first|apply oE|apply oF));(iterate 3 exact rfl);all_goals (intro h;first|(exact absurd h (by decide))|((try simp only [go_sem,simprocAttr,hb,EP] at h);(try with_reducible intro K hK);simp only [go_sem,simprocAttr,hb,EP])))|((first|((with_reducible apply wL);exact rfl)|((with_reducible apply wM);exact rfl));all_goals (try ((with_reducible intro h);first|(exact absurd h (by decide))|(try simp only [go_sem,simprocAttr,hb,EP] at h))))|omega|((first|first|refine aa hX hC hP (cM g hm) rfl rfl rfl (by simp only [go_sem,simprocAttr,hb,EP]) rfl ?_|(refine ai hX hC hP (bh way x bV) rfl rfl rfl ?_ ?_ ?_ ?_;iterate 3 (focus (simp only [go_sem,simprocAttr,hb,EP];done)))|(refine ai hX hC hP (bh way (a:Int) bV) rfl rfl rfl ?_ ?_ ?_ ?_;iterate 3 (focus (simp only [go_sem,simprocAttr,hb,EP];done))));try simp only [go_sem,simprocAttr,hb,EP])|(intro h))
      refine ⟨i+1,by omega, ?_,by omega⟩
      rw [z6]
      refine Le.of ?_ ?_<;>simp [go_sem,simprocAttr,rI]
     ·have hb:decide ((i:Int)<(l.length:Int))=false:=decide_eq_false (by omega)
      obtain rfl:i=l.length:=by omega
      repeat' (first|fail|((first|((with_reducible (first|apply oA|apply oB));exact rfl;intro K hK)|(refine hK _ ?_;clear hK K)|((with_reducible (first|apply oG|apply oH));iterate 3 exact rfl)|((with_reducible apply oI);(iterate 2 exact rfl);intro K hK)|(with_reducible (first|apply wI|apply wJ|apply wK)));try simp only [go_sem,simprocAttr,hb])|fail|(with_reducible (first|apply oC|apply oJ|exact oK|apply wA|apply wB|apply wC hX hC|apply wD hX hC|apply wE hX hC af|apply wF hX hC af|apply wG|apply wH|apply And.intro))|((with_reducible refine oD ?_ ?_);first|fail|kernel_rfl)|((with_reducible (first|apply oE|apply oF));(iterate 3 exact rfl);all_goals (intro h;first|(exact absurd h (by decide))|((try simp only [go_sem,simprocAttr,hb] at h);(try with_reducible intro K hK);simp only [go_sem,simprocAttr,hb])))|((first|((with_reducible apply wL);exact rfl)|((with_reducible apply wM);exact rfl));all_goals (try ((with_reducible intro h);first|(exact absurd h (by decide))|(try simp only [go_sem,simprocAttr,hb] at h))))|omega|((first|first|refine aa hX hC hP (cM g hm) rfl rfl rfl (by simp only [go_sem,simprocAttr,hb]) rfl ?_|(refine ai hX hC hP (bh way x bV) rfl rfl rfl ?_ ?_ ?_ ?_;iterate 3 (focus (simp only [go_sem,simprocAttr,hb];done)))|(refine ai hX hC hP (bh way (a:Int) bV) rfl rfl rfl ?_ ?_ ?_ ?_;iterate 3 (focus (simp only [go_sem,simprocAttr,hb];done))));try simp only [go_sem,simprocAttr,hb])|(intro h))
      rw [FE,td,hidx];rfl
   ·have hi:dB way x= -1:=by
     rcases fk (f:=fun y:Int=>decide (x=y)) (l:=way) 0 with ⟨h1,_⟩|⟨q,_,h2,h3,_⟩
     ·exact h1
     ·exact absurd (by rw [of_decide_eq_true h3,List.getD_eq_getElem?_getD,List.getElem?_eq_getElem h2];exact List.getElem_mem h2) hmem
    obtain ⟨a,rfl⟩:∃a:Nat,x=a:=⟨x.toNat,by omega⟩
    have EO:a<(gx g).n.toNat:=by simp only [gx];omega
    repeat' (first|fail|((first|((with_reducible (first|apply oA|apply oB));exact rfl;intro K hK)|(refine hK _ ?_;clear hK K)|((with_reducible (first|apply oG|apply oH));iterate 3 exact rfl)|((with_reducible apply oI);(iterate 2 exact rfl);intro K hK)|(with_reducible (first|apply wI|apply wJ|apply wK)));try simp only [go_sem,simprocAttr,hi])|fail|(with_reducible (first|apply oC|apply oJ|exact oK|apply wA|apply wB|apply wC hX hC|apply wD hX hC|apply wE hX hC af|apply wF hX hC af|apply wG|apply wH|apply And.intro))|((with_reducible refine oD ?_ ?_);first|fail|kernel_rfl)|((with_reducible (first|apply oE|apply oF));(iterate 3 exact rfl);all_goals (intro h;first|(exact absurd h (by decide))|((try simp only [go_sem,simprocAttr,hi] at h);(try with_reducible intro K hK);simp only [go_sem,simprocAttr,hi])))|((first|((with_reducible apply wL);exact rfl)|((with_reducible apply wM);exact rfl));all_goals (try ((with_reducible intro h);first|(exact absurd h (by decide))|(try simp only [go_sem,simprocAttr,hi] at h))))|omega|((first|first|refine aa hX hC hP (cM g hm) rfl rfl rfl (by simp only [go_sem,simprocAttr,hi]) rfl ?_|(refine ai hX hC hP (bh way x bV) rfl rfl rfl ?_ ?_ ?_ ?_;iterate 3 (focus (simp only [go_sem,simprocAttr,hi];done)))|(refine ai hX hC hP (bh way (a:Int) bV) rfl rfl rfl ?_ ?_ ?_ ?_;iterate 3 (focus (simp only [go_sem,simprocAttr,hi];done))));try simp only [go_sem,simprocAttr,hi])|(intro h))
    refine ak (fun j:Nat=>j≤g.es.length) (fun j=>⟨[(1, .ptr 1 0),(4,eN a),(3, .d (sB (uH g))),(5, .ref 39),(6,eN (ef g a j)),(7,eN j)], [(1, .box [eN g.n, .d (sE g.es)]),(39, .tip 3 1 ((way++ [(a:Int)]).map rI))]⟩) (fun j=>g.es.length - j) 0 (by simp) ?_ ?_
    ·refine Le.of ?_ ?_<;>simp [go_sem,simprocAttr,rI,ef]
    rintro j hj
    rcases Nat.lt_or_ge j g.es.length with hjl|I9
    ·have aj:decide ((j:Int)<(g.es.length:Int))=true:=decide_eq_true (by omega)
     obtain ⟨⟨D7,mZ⟩,_⟩:=gj hm hjl
     have dQ:ef g a (j+1)=if (g.es.getD j (0,0)).2=(a:Int)∧(uH g).getD (g.es.getD j (0,0)).1.toNat false=true then min (ef g a j) (g.es.getD j (0,0)).1 else ef g a j:=mG
     repeat' (first|fail|((first|((with_reducible (first|apply oA|apply oB));exact rfl;intro K hK)|(refine hK _ ?_;clear hK K)|((with_reducible (first|apply oG|apply oH));iterate 3 exact rfl)|((with_reducible apply oI);(iterate 2 exact rfl);intro K hK)|(with_reducible (first|apply wI|apply wJ|apply wK)));try simp only [go_sem,simprocAttr,aj,hlf])|fail|(with_reducible (first|apply oC|apply oJ|exact oK|apply wA|apply wB|apply wC hX hC|apply wD hX hC|apply wE hX hC af|apply wF hX hC af|apply wG|apply wH|apply And.intro))|((with_reducible refine oD ?_ ?_);first|fail|kernel_rfl)|((with_reducible (first|apply oE|apply oF));(iterate 3 exact rfl);all_goals (intro h;first|(exact absurd h (by decide))|((try simp only [go_sem,simprocAttr,aj,hlf] at h);(try with_reducible intro K hK);simp only [go_sem,simprocAttr,aj,hlf])))|((first|((with_reducible apply wL);exact rfl)|((with_reducible apply wM);exact rfl));all_goals (try ((with_reducible intro h);first|(exact absurd h (by decide))|(try simp only [go_sem,simprocAttr,aj,hlf] at h))))|omega|((first|first|refine aa hX hC hP (cM g hm) rfl rfl rfl (by simp only [go_sem,simprocAttr,aj,hlf]) rfl ?_|(refine ai hX hC hP (bh way x bV) rfl rfl rfl ?_ ?_ ?_ ?_;iterate 3 (focus (simp only [go_sem,simprocAttr,aj,hlf];done)))|(refine ai hX hC hP (bh way (a:Int) bV) rfl rfl rfl ?_ ?_ ?_ ?_;iterate 3 (focus (simp only [go_sem,simprocAttr,aj,hlf];done))));try simp only [go_sem,simprocAttr,aj,hlf])|(intro h))
     all_goals (first|rw [if_pos ⟨by assumption,by assumption⟩] at dQ|rw [if_neg (fun e=>by first|exact absurd e.1 (by assumption)|simp_all)] at dQ)
     all_goals (refine ⟨j+1,by omega, ?_,by omega⟩;refine Le.of ?_ ?_<;>simp [go_sem,simprocAttr,dQ])
    ·have aj:decide ((j:Int)<(g.es.length:Int))=false:=decide_eq_false (by omega)
     obtain rfl:j=g.es.length:=by omega
     repeat' (first|fail|((first|((with_reducible (first|apply oA|apply oB));exact rfl;intro K hK)|(refine hK _ ?_;clear hK K)|((with_reducible (first|apply oG|apply oH));iterate 3 exact rfl)|((with_reducible apply oI);(iterate 2 exact rfl);intro K hK)|(with_reducible (first|apply wI|apply wJ|apply wK)));try simp only [go_sem,simprocAttr,aj])|fail|(with_reducible (first|apply oC|apply oJ|exact oK|apply wA|apply wB|apply wC hX hC|apply wD hX hC|apply wE hX hC af|apply wF hX hC af|apply wG|apply wH|apply And.intro))|((with_reducible refine oD ?_ ?_);first|fail|kernel_rfl)|((with_reducible (first|apply oE|apply oF));(iterate 3 exact rfl);all_goals (intro h;first|(exact absurd h (by decide))|((try simp only [go_sem,simprocAttr,aj] at h);(try with_reducible intro K hK);simp only [go_sem,simprocAttr,aj])))|((first|((with_reducible apply wL);exact rfl)|((with_reducible apply wM);exact rfl));all_goals (try ((with_reducible intro h);first|(exact absurd h (by decide))|(try simp only [go_sem,simprocAttr,aj] at h))))|omega|((first|first|refine aa hX hC hP (cM g hm) rfl rfl rfl (by simp only [go_sem,simprocAttr,aj]) rfl ?_|(refine ai hX hC hP (bh way x bV) rfl rfl rfl ?_ ?_ ?_ ?_;iterate 3 (focus (simp only [go_sem,simprocAttr,aj];done)))|(refine ai hX hC hP (bh way (a:Int) bV) rfl rfl rfl ?_ ?_ ?_ ?_;iterate 3 (focus (simp only [go_sem,simprocAttr,aj];done))));try simp only [go_sem,simprocAttr,aj])|(intro h))
     refine ⟨(way++ [(a:Int)],ef g a g.es.length),⟨wk.next EO hmem,pn hm (Nat.le_refl _), ?_⟩, ?_, ?_⟩
     ·simp only
      rw [← hrun,iA EO hmem]
      simp only [mF]
      rw [if_neg hmem]
     ·refine Le.of ?_ ?_<;>simp [go_sem,simprocAttr]
     ·have:=iA EO hmem;simp only;omega
 ·have hb:decide ((k:Int)<g.n)=false:=decide_eq_false (by omega)
  have hst:Dk g=g.n:=by
   have:bU (fun b:Bool=>b) (uH g)= -1:=cD false fun j hj=>hno j (by omega)
   unfold Dk;rw [this,if_pos (by omega)]
  have hne:decide ((k:Int)=g.n)=true:=decide_eq_true (by omega)
  repeat' (first|fail|((first|((with_reducible (first|apply oA|apply oB));exact rfl;intro K hK)|(refine hK _ ?_;clear hK K)|((with_reducible (first|apply oG|apply oH));iterate 3 exact rfl)|((with_reducible apply oI);(iterate 2 exact rfl);intro K hK)|(with_reducible (first|apply wI|apply wJ|apply wK)));try simp only [go_sem,simprocAttr,hb,hne])|fail|(with_reducible (first|apply oC|apply oJ|exact oK|apply wA|apply wB|apply wC hX hC|apply wD hX hC|apply wE hX hC af|apply wF hX hC af|apply wG|apply wH|apply And.intro))|((with_reducible refine oD ?_ ?_);first|fail|kernel_rfl)|((with_reducible (first|apply oE|apply oF));(iterate 3 exact rfl);all_goals (intro h;first|(exact absurd h (by decide))|((try simp only [go_sem,simprocAttr,hb,hne] at h);(try with_reducible intro K hK);simp only [go_sem,simprocAttr,hb,hne])))|((first|((with_reducible apply wL);exact rfl)|((with_reducible apply wM);exact rfl));all_goals (try ((with_reducible intro h);first|(exact absurd h (by decide))|(try simp only [go_sem,simprocAttr,hb,hne] at h))))|omega|((first|first|refine aa hX hC hP (cM g hm) rfl rfl rfl (by simp only [go_sem,simprocAttr,hb,hne]) rfl ?_|(refine ai hX hC hP (bh way x bV) rfl rfl rfl ?_ ?_ ?_ ?_;iterate 3 (focus (simp only [go_sem,simprocAttr,hb,hne];done)))|(refine ai hX hC hP (bh way (a:Int) bV) rfl rfl rfl ?_ ?_ ?_ ?_;iterate 3 (focus (simp only [go_sem,simprocAttr,hb,hne];done))));try simp only [go_sem,simprocAttr,hb,hne])|(intro h))
  simp only [k7];rw [if_pos hst];rfl
end Go.Ab
end
section
namespace Go.Ab
open Go.Proofs
attribute [local congr] ACall.congr
set_option maxRecDepth 10000
def fZ (g:Gr):Int × Int × List Int:=gO g (k7 g) (bJ (·.2) g)
theorem wo {l:List Edge} {k:Nat} {x:Edge} :x∈l.take k↔∃j,j<k∧j<l.length∧l.getD j (0,0)=x:=by
 rw [List.mem_iff_getElem?]
 constructor
 ·rintro ⟨j,hj⟩
  rw [List.getElem?_take] at hj
  split at hj
  ·exact ⟨j,by assumption,(List.getElem?_eq_some_iff.1 hj).1,by rw [List.getD_eq_getElem?_getD,hj];rfl⟩
  ·cases hj
 ·rintro ⟨j,h1,h2,h3⟩
  refine ⟨j, ?_⟩
  rw [List.getElem?_take,if_pos h1,List.getElem?_eq_getElem h2]
  rw [List.getD_eq_getElem?_getD,List.getElem?_eq_getElem h2] at h3
  exact congrArg some h3
theorem sH (g:Gr) (hl0:g.es.length≤1000):Spec Tryz.prog 99 (Args [eG g]) [] (.tup [eN (fZ g).1,eN (fZ g).2.1, .d (sI (fZ g).2.2)]) []:=by
 have hl:g.es.length≤9223372036854775807:=by omega
 (refine Spec.intro (C:=T.cfg [] []) (rs:= [.t 2, .t 3, .t 4]) (T.aq _ _) Tryz.func99 rfl rfl Tryz.ntmps99 Tryz.results99 (by simp [AObj.isNest]) (by simp [AObj.isNest]) (by kernel_rfl) ?_;intro X hX hP hC aN aO vals hA;refine ⟨_,by simp,hA, ?_⟩;have af:X.P.follows .mixedOrders=true:=(by rw [hP];exact T.mixed);clear aN aO)
 cases hm:aU g with
 |false=>
  repeat' (first|fail|((first|((with_reducible (first|apply oA|apply oB));exact rfl;intro K hK)|(refine hK _ ?_;clear hK K)|((with_reducible (first|apply oG|apply oH));iterate 3 exact rfl)|((with_reducible apply oI);(iterate 2 exact rfl);intro K hK)|(with_reducible (first|apply wI|apply wJ|apply wK)));try simp only [go_sem,simprocAttr,hm])|fail|(with_reducible (first|apply oC|apply oJ|exact oK|apply wA|apply wB|apply wC hX hC|apply wD hX hC|apply wE hX hC af|apply wF hX hC af|apply wG|apply wH|apply And.intro))|((with_reducible refine oD ?_ ?_);first|fail|kernel_rfl)|((with_reducible (first|apply oE|apply oF));(iterate 3 exact rfl);all_goals (intro h;first|(exact absurd h (by decide))|((try simp only [go_sem,simprocAttr,hm] at h);(try with_reducible intro K hK);simp only [go_sem,simprocAttr,hm])))|((first|((with_reducible apply wL);exact rfl)|((with_reducible apply wM);exact rfl));all_goals (try ((with_reducible intro h);first|(exact absurd h (by decide))|(try simp only [go_sem,simprocAttr,hm] at h))))|omega|((first|first|refine aa hX hC hP (cR g hl) rfl rfl rfl (by simp only [go_sem,simprocAttr,hm]) rfl ?_|refine aa hX hC hP (dF g hm) rfl rfl rfl (by simp only [go_sem,simprocAttr,hm]) rfl ?_|refine aa hX hC hP (cy g true hl0 hn0) rfl rfl rfl (by simp only [go_sem,simprocAttr,hm]) rfl ?_);try simp only [go_sem,simprocAttr,hm])|(intro h))
  all_goals simp [fZ,gO,hm]
 |true=>
 have hn:=aZ hm
 have hn0:0≤g.n∧g.n≤1000:=by omega
 repeat' (first|fail|((first|((with_reducible (first|apply oA|apply oB));exact rfl;intro K hK)|(refine hK _ ?_;clear hK K)|((with_reducible (first|apply oG|apply oH));iterate 3 exact rfl)|((with_reducible apply oI);(iterate 2 exact rfl);intro K hK)|(with_reducible (first|apply wI|apply wJ|apply wK)));try simp only [go_sem,simprocAttr,hm])|fail|(with_reducible (first|apply oC|apply oJ|exact oK|apply wA|apply wB|apply wC hX hC|apply wD hX hC|apply wE hX hC af|apply wF hX hC af|apply wG|apply wH|apply And.intro))|((with_reducible refine oD ?_ ?_);first|fail|kernel_rfl)|((with_reducible (first|apply oE|apply oF));(iterate 3 exact rfl);all_goals (intro h;first|(exact absurd h (by decide))|((try simp only [go_sem,simprocAttr,hm] at h);(try with_reducible intro K hK);simp only [go_sem,simprocAttr,hm])))|((first|((with_reducible apply wL);exact rfl)|((with_reducible apply wM);exact rfl));all_goals (try ((with_reducible intro h);first|(exact absurd h (by decide))|(try simp only [go_sem,simprocAttr,hm] at h))))|omega|((first|first|refine aa hX hC hP (cR g hl) rfl rfl rfl (by simp only [go_sem,simprocAttr,hm]) rfl ?_|refine aa hX hC hP (dF g hm) rfl rfl rfl (by simp only [go_sem,simprocAttr,hm]) rfl ?_|refine aa hX hC hP (cy g true hl0 hn0) rfl rfl rfl (by simp only [go_sem,simprocAttr,hm]) rfl ?_);try simp only [go_sem,simprocAttr,hm])|(intro h))
 refine ak (fun k:Nat=>k≤g.es.length∧∀j,j<k→decide ((g.es.getD j (0,0)).1=(g.es.getD j (0,0)).2)=false) (fun k=>⟨[(5,eN k),(1, .ptr 1 0)], [(1, .box [eN g.n, .d (sE g.es)])]⟩) (fun k=>g.es.length - k) 0 (by simp) ?_ ?_
 ·(refine Le.of ?_ ?_<;>simp [go_sem,simprocAttr,hm])
 rintro k ⟨hk,hno⟩
 rcases Nat.lt_or_ge k g.es.length with hlt|hge
 ·have aj:decide ((k:Int)<(g.es.length:Int))=true:=decide_eq_true (by omega)
  repeat' (first|fail|((first|((with_reducible (first|apply oA|apply oB));exact rfl;intro K hK)|(refine hK _ ?_;clear hK K)|((with_reducible (first|apply oG|apply oH));iterate 3 exact rfl)|((with_reducible apply oI);(iterate 2 exact rfl);intro K hK)|(with_reducible (first|apply wI|apply wJ|apply wK)));try simp only [go_sem,simprocAttr,hm,aj])|fail|(with_reducible (first|apply oC|apply oJ|exact oK|apply wA|apply wB|apply wC hX hC|apply wD hX hC|apply wE hX hC af|apply wF hX hC af|apply wG|apply wH|apply And.intro))|((with_reducible refine oD ?_ ?_);first|fail|kernel_rfl)|((with_reducible (first|apply oE|apply oF));(iterate 3 exact rfl);all_goals (intro h;first|(exact absurd h (by decide))|((try simp only [go_sem,simprocAttr,hm,aj] at h);(try with_reducible intro K hK);simp only [go_sem,simprocAttr,hm,aj])))|((first|((with_reducible apply wL);exact rfl)|((with_reducible apply wM);exact rfl));all_goals (try ((with_reducible intro h);first|(exact absurd h (by decide))|(try simp only [go_sem,simprocAttr,hm,aj] at h))))|omega|((first|first|refine aa hX hC hP (cR g hl) rfl rfl rfl (by simp only [go_sem,simprocAttr,hm,aj]) rfl ?_|refine aa hX hC hP (dF g hm) rfl rfl rfl (by simp only [go_sem,simprocAttr,hm,aj]) rfl ?_|refine aa hX hC hP (cy g true hl0 hn0) rfl rfl rfl (by simp only [go_sem,simprocAttr,hm,aj]) rfl ?_);try simp only [go_sem,simprocAttr,hm,aj])|(intro h))
  any_goals (
   have hlo:jG g=(k:Int):=dM (d:=(0,0)) hlt hno (decide_eq_true h)
   have hc:fZ g=(13,jG g, []):=by
    simp only [fZ,gO];rw [if_neg (by simp [hm]),if_pos (by omega)]
   rw [hc]<;>first|rfl|exact hlo.symm)
  refine ⟨k+1,⟨by omega,fun j hj=> ?_⟩, ?_,by omega⟩
  ·by_cases hjk:j=k
   ·subst hjk;exact h
   ·simpa using hno j (by omega)
  ·(refine Le.of ?_ ?_<;>simp [go_sem,simprocAttr,hm,aj])
 ·have aj:decide ((k:Int)<(g.es.length:Int))=false:=decide_eq_false (by omega)
  have hlo:¬0≤jG g:=by
   have:jG g= -1:=cD (0,0) fun j hj=>hno j (by omega)
   omega
  repeat' (first|fail|((first|((with_reducible (first|apply oA|apply oB));exact rfl;intro K hK)|(refine hK _ ?_;clear hK K)|((with_reducible (first|apply oG|apply oH));iterate 3 exact rfl)|((with_reducible apply oI);(iterate 2 exact rfl);intro K hK)|(with_reducible (first|apply wI|apply wJ|apply wK)));try simp only [go_sem,simprocAttr,hm,aj])|fail|(with_reducible (first|apply oC|apply oJ|exact oK|apply wA|apply wB|apply wC hX hC|apply wD hX hC|apply wE hX hC af|apply wF hX hC af|apply wG|apply wH|apply And.intro))|((with_reducible refine oD ?_ ?_);first|fail|kernel_rfl)|((with_reducible (first|apply oE|apply oF));(iterate 3 exact rfl);all_goals (intro h;first|(exact absurd h (by decide))|((try simp only [go_sem,simprocAttr,hm,aj] at h);(try with_reducible intro K hK);simp only [go_sem,simprocAttr,hm,aj])))|((first|((with_reducible apply wL);exact rfl)|((with_reducible apply wM);exact rfl));all_goals (try ((with_reducible intro h);first|(exact absurd h (by decide))|(try simp only [go_sem,simprocAttr,hm,aj] at h))))|omega|((first|first|refine aa hX hC hP (cR g hl) rfl rfl rfl (by simp only [go_sem,simprocAttr,hm,aj]) rfl ?_|refine aa hX hC hP (dF g hm) rfl rfl rfl (by simp only [go_sem,simprocAttr,hm,aj]) rfl ?_|refine aa hX hC hP (cy g true hl0 hn0) rfl rfl rfl (by simp only [go_sem,simprocAttr,hm,aj]) rfl ?_);try simp only [go_sem,simprocAttr,hm,aj])|(intro h))
  clear hno aj hk hge
  refine ak (fun k:Nat=>k≤g.es.length∧∀j,j<k→mE g j=false) (fun k=>⟨[(6,eN k),(1, .ptr 1 0)], [(1, .box [eN g.n, .d (sE g.es)])]⟩) (fun k=>g.es.length - k) 0 (by simp) ?_ ?_
  ·(refine Le.of ?_ ?_<;>simp [go_sem,simprocAttr])
  rintro k ⟨hk,FF⟩
  rcases Nat.lt_or_ge k g.es.length with hlt|hge
  ·have aj:decide ((k:Int)<(g.es.length:Int))=true:=decide_eq_true (by omega)
   repeat' (first|fail|((first|((with_reducible (first|apply oA|apply oB));exact rfl;intro K hK)|(refine hK _ ?_;clear hK K)|((with_reducible (first|apply oG|apply oH));iterate 3 exact rfl)|((with_reducible apply oI);(iterate 2 exact rfl);intro K hK)|(with_reducible (first|apply wI|apply wJ|apply wK)));try simp only [go_sem,simprocAttr,hm,aj])|fail|(with_reducible (first|apply oC|apply oJ|exact oK|apply wA|apply wB|apply wC hX hC|apply wD hX hC|apply wE hX hC af|apply wF hX hC af|apply wG|apply wH|apply And.intro))|((with_reducible refine oD ?_ ?_);first|fail|kernel_rfl)|((with_reducible (first|apply oE|apply oF));(iterate 3 exact rfl);all_goals (intro h;first|(exact absurd h (by decide))|((try simp only [go_sem,simprocAttr,hm,aj] at h);(try with_reducible intro K hK);simp only [go_sem,simprocAttr,hm,aj])))|((first|((with_reducible apply wL);exact rfl)|((with_reducible apply wM);exact rfl));all_goals (try ((with_reducible intro h);first|(exact absurd h (by decide))|(try simp only [go_sem,simprocAttr,hm,aj] at h))))|omega|((first|first|refine aa hX hC hP (cR g hl) rfl rfl rfl (by simp only [go_sem,simprocAttr,hm,aj]) rfl ?_|refine aa hX hC hP (dF g hm) rfl rfl rfl (by simp only [go_sem,simprocAttr,hm,aj]) rfl ?_|refine aa hX hC hP (cy g true hl0 hn0) rfl rfl rfl (by simp only [go_sem,simprocAttr,hm,aj]) rfl ?_);try simp only [go_sem,simprocAttr,hm,aj])|(intro h))
   refine ak (fun q:Nat=>q≤k∧∀j,j<q→¬g.es.getD j (0,0)=g.es.getD k (0,0)) (fun q=>⟨[(6,eN k),(7,eN q),(1, .ptr 1 0)], [(1, .box [eN g.n, .d (sE g.es)])]⟩) (fun q=>k - q) 0 (by simp) ?_ ?_
   ·(refine Le.of ?_ ?_<;>simp [go_sem,simprocAttr,hm,aj])
   rintro q ⟨hq,hne⟩
   rcases Nat.lt_or_ge q k with MR|MR
   ·have bt:decide ((q:Int)<(k:Int))=true:=decide_eq_true (by omega)
    repeat' (first|fail|((first|((with_reducible (first|apply oA|apply oB));exact rfl;intro K hK)|(refine hK _ ?_;clear hK K)|((with_reducible (first|apply oG|apply oH));iterate 3 exact rfl)|((with_reducible apply oI);(iterate 2 exact rfl);intro K hK)|(with_reducible (first|apply wI|apply wJ|apply wK)));try simp only [go_sem,simprocAttr,bt,eR])|fail|(with_reducible (first|apply oC|apply oJ|exact oK|apply wA|apply wB|apply wC hX hC|apply wD hX hC|apply wE hX hC af|apply wF hX hC af|apply wG|apply wH|apply And.intro))|((with_reducible refine oD ?_ ?_);first|fail|kernel_rfl)|((with_reducible (first|apply oE|apply oF));(iterate 3 exact rfl);all_goals (intro h;first|(exact absurd h (by decide))|((try simp only [go_sem,simprocAttr,bt,eR] at h);(try with_reducible intro K hK);simp only [go_sem,simprocAttr,bt,eR])))|((first|((with_reducible apply wL);exact rfl)|((with_reducible apply wM);exact rfl));all_goals (try ((with_reducible intro h);first|(exact absurd h (by decide))|(try simp only [go_sem,simprocAttr,bt,eR] at h))))|omega|((first|first|refine aa hX hC hP (cR g hl) rfl rfl rfl (by simp only [go_sem,simprocAttr,bt,eR]) rfl ?_|refine aa hX hC hP (dF g hm) rfl rfl rfl (by simp only [go_sem,simprocAttr,bt,eR]) rfl ?_|refine aa hX hC hP (cy g true hl0 hn0) rfl rfl rfl (by simp only [go_sem,simprocAttr,bt,eR]) rfl ?_);try simp only [go_sem,simprocAttr,bt,eR])|(intro h))
    any_goals (
     have Cd:mE g k=true:=decide_eq_true (wo.2 ⟨q,MR,by omega,h⟩)
     have LN:fm g=(k:Int):=dM (d:=0) (by simpa using hlt) (fun j hj=>by rw [gl (by omega)];exact FF j hj) (by rw [gl hlt];exact Cd)
     have hc:fZ g=(14,fm g, []):=by
      simp only [fZ,gO];rw [if_neg (by simp [hm]),if_neg hlo,if_pos (by omega)]
     rw [hc]<;>first|rfl|exact LN.symm)
    refine ⟨q+1,⟨by omega,fun j hj=> ?_⟩, ?_,by omega⟩
    ·by_cases hjk:j=q
     ·subst hjk;exact h
     ·exact hne j (by omega)
    ·refine Le.of ?_ ?_<;>simp [go_sem,simprocAttr]
   ·have bt:decide ((q:Int)<(k:Int))=false:=decide_eq_false (by omega)
    repeat' (first|fail|((first|((with_reducible (first|apply oA|apply oB));exact rfl;intro K hK)|(refine hK _ ?_;clear hK K)|((with_reducible (first|apply oG|apply oH));iterate 3 exact rfl)|((with_reducible apply oI);(iterate 2 exact rfl);intro K hK)|(with_reducible (first|apply wI|apply wJ|apply wK)));try simp only [go_sem,simprocAttr,bt])|fail|(with_reducible (first|apply oC|apply oJ|exact oK|apply wA|apply wB|apply wC hX hC|apply wD hX hC|apply wE hX hC af|apply wF hX hC af|apply wG|apply wH|apply And.intro))|((with_reducible refine oD ?_ ?_);first|fail|kernel_rfl)|((with_reducible (first|apply oE|apply oF));(iterate 3 exact rfl);all_goals (intro h;first|(exact absurd h (by decide))|((try simp only [go_sem,simprocAttr,bt] at h);(try with_reducible intro K hK);simp only [go_sem,simprocAttr,bt])))|((first|((with_reducible apply wL);exact rfl)|((with_reducible apply wM);exact rfl));all_goals (try ((with_reducible intro h);first|(exact absurd h (by decide))|(try simp only [go_sem,simprocAttr,bt] at h))))|omega|((first|first|refine aa hX hC hP (cR g hl) rfl rfl rfl (by simp only [go_sem,simprocAttr,bt]) rfl ?_|refine aa hX hC hP (dF g hm) rfl rfl rfl (by simp only [go_sem,simprocAttr,bt]) rfl ?_|refine aa hX hC hP (cy g true hl0 hn0) rfl rfl rfl (by simp only [go_sem,simprocAttr,bt]) rfl ?_);try simp only [go_sem,simprocAttr,bt])|(intro h))
    refine ⟨k+1,⟨by omega,fun j hj=> ?_⟩, ?_,by omega⟩
    ·by_cases hjk:j=k
     ·subst hjk
      refine decide_eq_false fun h=> ?_
      obtain ⟨i,h1,_,h3⟩:=wo.1 h
      exact hne i (by omega) h3
     ·exact FF j (by omega)
    ·(refine Le.of ?_ ?_<;>simp [go_sem,simprocAttr,bt])
  ·have aj:decide ((k:Int)<(g.es.length:Int))=false:=decide_eq_false (by omega)
   have Cd:¬0≤fm g:=by
    have:fm g= -1:=cD 0 fun j hj=>by
     rw [List.length_range] at hj
     rw [gl hj];exact FF j (by omega)
    omega
   repeat' (first|fail|((first|((with_reducible (first|apply oA|apply oB));exact rfl;intro K hK)|(refine hK _ ?_;clear hK K)|((with_reducible (first|apply oG|apply oH));iterate 3 exact rfl)|((with_reducible apply oI);(iterate 2 exact rfl);intro K hK)|(with_reducible (first|apply wI|apply wJ|apply wK)));try simp only [go_sem,simprocAttr,hm,aj])|fail|(with_reducible (first|apply oC|apply oJ|exact oK|apply wA|apply wB|apply wC hX hC|apply wD hX hC|apply wE hX hC af|apply wF hX hC af|apply wG|apply wH|apply And.intro))|((with_reducible refine oD ?_ ?_);first|fail|kernel_rfl)|((with_reducible (first|apply oE|apply oF));(iterate 3 exact rfl);all_goals (intro h;first|(exact absurd h (by decide))|((try simp only [go_sem,simprocAttr,hm,aj] at h);(try with_reducible intro K hK);simp only [go_sem,simprocAttr,hm,aj])))|((first|((with_reducible apply wL);exact rfl)|((with_reducible apply wM);exact rfl));all_goals (try ((with_reducible intro h);first|(exact absurd h (by decide))|(try simp only [go_sem,simprocAttr,hm,aj] at h))))|omega|((first|first|refine aa hX hC hP (cR g hl) rfl rfl rfl (by simp only [go_sem,simprocAttr,hm,aj]) rfl ?_|refine aa hX hC hP (dF g hm) rfl rfl rfl (by simp only [go_sem,simprocAttr,hm,aj]) rfl ?_|refine aa hX hC hP (cy g true hl0 hn0) rfl rfl rfl (by simp only [go_sem,simprocAttr,hm,aj]) rfl ?_);try simp only [go_sem,simprocAttr,hm,aj])|(intro h))
   all_goals (
    have hc:fZ g=if 0<(k7 g).length then (15,0,k7 g) else if 1<(bJ (j9 false) g).length then (16,0,(bJ (j9 false) g).take 2) else (0,0, []):=by
     show gO g (k7 g) (bJ (j9 false) g)=_
     simp only [gO];rw [if_neg (by simp [hm]),if_neg hlo,if_neg Cd]
    first|rw [if_pos (by omega)] at hc|(rw [if_neg (by omega)] at hc;first|rw [if_pos (by omega)] at hc|rw [if_neg (by omega)] at hc)
    rw [hc]<;>first|rfl|simp only [List.map_take])
end Go.Ab
end
section
namespace Go.Ab
def Ord (g:Gr) (out:List Int):Prop:=∀p,p<out.length→∀i,i<g.es.length→hd g i=out.getD p 0→tl g i∈out.take p
theorem iD {l r:List Int} {p:Nat} (h:p<l.length):(l++r).getD p 0=l.getD p 0:=by
 rw [List.getD_eq_getElem?_getD,List.getD_eq_getElem?_getD,List.getElem?_append_left h]
theorem Ord.next {g:Gr} {out:List Int} (h:Ord g out) {x:Nat} (hb:∀i,i<g.es.length→hd g i=x→tl g i∈out):Ord g (out++ [(x:Int)]):=by
 intro p hp i hi hh
 rw [List.length_append,List.length_singleton] at hp
 by_cases fU:p<out.length
 ·rw [iD fU] at hh
  have:=h p fU i hi hh
  rw [List.take_append_of_le_length (by omega)]
  exact this
 ·have hpe:p=out.length:=by omega
  subst hpe
  rw [List.getD_eq_getElem?_getD,List.getElem?_append_right (by omega)] at hh
  simp at hh
  rw [List.take_append_of_le_length (by omega),List.take_of_length_le (by omega)]
  exact hb i hi hh
theorem q8 {g:Gr} (hm:aU g=true):∀f out,eO g out→Ord g out→left g out≤f→eO g (sD g f out)∧Ord g (sD g f out)∧dB (cB g (sD g f out)) 0<0
 |f,out,hP,hO,hl=>by
  rcases I8 (g:=g) out with hx|⟨x,hx,EM,hw⟩
  ·rw [wj (by omega)];exact ⟨hP,hO,by omega⟩
  ·obtain ⟨MT,_,hb⟩:=hP.next hm EM hw
   have hn:=s5 hP MT
   cases f with
   |zero=>omega
   |succ f=>
    have:=q8 hm f (out++ [(x:Int)]) MT (hO.next hb) (by omega)
    simp only [sD,hx]
    rw [if_neg (by omega)]
    exact this
theorem gm {g:Gr} (hm:aU g=true):eO g (aI g)∧Ord g (aI g)∧dB (cB g (aI g)) 0<0:=
 q8 hm _ _ (eO.nil g) (fun p hp=>by simp at hp) (by rw [nE];exact Nat.le_refl _)
theorem ox {g:Gr} (hm:aU g=true) {y:Nat} (hy:y<g.n.toNat):0<wt g (aI g) y↔(y:Int)∉aI g:=by
 obtain ⟨_,_,hi⟩:=gm hm
 constructor
 ·intro h hin;simp [wt,hin] at h
 ·intro h
  have h0:wt g (aI g) y≠0:=by
   intro e
   rcases fk (f:=fun y:Int=>decide (0=y)) (l:=cB g (aI g)) 0 with ⟨_,h2⟩|⟨k,h1,_⟩
   ·have:=h2 _ (List.mem_of_getElem? (j5 hy))
    rw [e] at this;simp at this
   ·have:dB (cB g (aI g)) 0=k:=h1
    omega
  have:0≤wt g (aI g) y:=by simp only [wt,h,if_false];omega
  omega
theorem q9 {g:Gr} {l:List Bool} {j y:Nat} (h:y<g.n.toNat):(eS g l j).getD y false=(List.range j).any fun i=>decide (hd g i=(y:Int))&&(l.getD (tl g i).toNat false&&l.getD (hd g i).toNat false):=by
 simp [eS,List.getD_eq_getElem?_getD,List.getElem?_range h]
theorem rq {g:Gr} (hm:aU g=true):∀k y,y<g.n.toNat→(y:Int)∉aI g→(fD g k).getD y false=true
 |0,y,hy,_=>by simp [fD,k5,List.getD_eq_getElem?_getD,List.getElem?_range hy];omega
 |k+1,y,hy,h=>by
  have hw:=(ox hm hy).2 h
  simp only [wt,h,if_false] at hw
  obtain ⟨i,hi,hp⟩:=List.countP_pos_iff.1 (Int.natCast_pos.1 hw)
  simp only [Bool.and_eq_true,decide_eq_true_eq,Bool.not_eq_true',decide_eq_false_iff_not] at hp
  have hil:=List.mem_range.1 hi
  obtain ⟨⟨h1,h2⟩,_⟩:=gj hm hil
  have ht:(g.es.getD i (0,0)).1=tl g i:=rfl
  rw [ht] at h1 h2
  have e:((tl g i).toNat:Int)=tl g i:=by omega
  have g1:=rq hm k (tl g i).toNat (by omega) (by rw [e];exact hp.2)
  have g2:=rq hm k y hy h
  show (eS g (fD g k) g.es.length).getD y false=true
  rw [q9 hy,List.any_eq_true]
  refine ⟨i,hi, ?_⟩
  rw [hp.1,Int.toNat_natCast,g1,g2];simp
theorem yM {g:Gr} (hm:aU g=true):∀k p,p<k→p<(aI g).length→(fD g k).getD ((aI g).getD p 0).toNat false=false
 |0,p,h,_=>by omega
 |k+1,p,h,hp=>by
  obtain ⟨hP,hO,_⟩:=gm hm
  have hr:=hP.lo _ (gF hp)
  obtain ⟨y,hy⟩:∃y:Nat,(aI g).getD p 0=y:=⟨((aI g).getD p 0).toNat,by omega⟩
  have N8:y<g.n.toNat:=by omega
  rw [hy,Int.toNat_natCast]
  show (eS g (fD g k) g.es.length).getD y false=false
  rw [q9 N8,List.any_eq_false]
  intro i hi
  have hil:=List.mem_range.1 hi
  simp only [Bool.and_eq_true,decide_eq_true_eq]
  rintro ⟨h1,h2,_⟩
  have ht:=hO p hp i hil (by rw [h1,hy])
  rw [List.mem_iff_getElem?] at ht
  obtain ⟨q,hq⟩:=ht
  rw [List.getElem?_take] at hq
  split at hq
  ·rename_i N9
   have:=yM hm k q (by omega) (by omega)
   rw [List.getD_eq_getElem?_getD (l:=aI g),hq] at this
   rw [Option.getD_some,h2] at this
   cases this
  ·cases hq
theorem Ch {g:Gr} (hm:aU g=true) {y:Nat} (hy:y<g.n.toNat):(uH g).getD y false=true↔(y:Int)∉aI g:=by
 constructor
 ·intro h hin
  obtain ⟨hP,_,_⟩:=gm hm
  obtain ⟨p,hp,e⟩:=List.getElem_of_mem hin
  have hl:=hP.fuel
  have:=yM hm g.n.toNat p (by omega) hp
  rw [List.getD_eq_getElem?_getD (l:=aI g),List.getElem?_eq_getElem hp,Option.getD_some,e,Int.toNat_natCast] at this
  have h2:(fD g g.n.toNat).getD y false=true:=h
  rw [this] at h2;cases h2
 ·intro h;exact rq hm _ y hy h
theorem Ci {g:Gr} (hm:aU g=true) {y:Nat} (hy:y<g.n.toNat):(uH g).getD y false=decide (0<(cB g (aI g)).getD y 0):=by
 rw [kY hy,Bool.eq_iff_iff,Ch hm hy,decide_eq_true_eq,ox hm hy]
theorem start_eq {g:Gr} (hm:aU g=true):(bU (fun n=>decide (0<n)) (cB g (aI g))= -1∧Dk g=g.n)∨∃a:Nat,a<g.n.toNat∧bU (fun n=>decide (0<n)) (cB g (aI g))=a∧Dk g=a∧(a:Int)∉aI g:=by
 have hlf:(uH g).length=g.n.toNat:=leftK_length
 rcases fk (f:=fun n:Int=>decide (0<n)) (l:=cB g (aI g)) 0 with ⟨h1,h2⟩|⟨k,h1,h2,h3,h4⟩
 ·refine .inl ⟨h1, ?_⟩
  have:bU (fun b:Bool=>b) (uH g)= -1:=cD false fun j hj=>by
   rw [hlf] at hj
   rw [Ci hm hj]
   exact h2 _ (by rw [List.getD_eq_getElem?_getD,j5 hj];exact List.mem_of_getElem? (j5 hj))
  unfold Dk;rw [this,if_pos (by omega)]
 ·rw [wts_length] at h2
  refine .inr ⟨k,h2,h1, ?_, ?_⟩
  ·have:bU (fun b:Bool=>b) (uH g)=k:=dM (d:=false) (by omega) (fun j hj=>by
    rw [Ci hm (by omega)];exact h4 j hj) (by rw [Ci hm h2];exact h3)
   unfold Dk;rw [this,if_neg (by omega)]
  ·rw [← ox hm h2]
   rw [kY h2] at h3
   exact of_decide_eq_true h3
def Q (g:Gr) (a:Nat) (t:Int):Prop:=∃i,i<g.es.length∧hd g i=(a:Int)∧tl g i=t∧t∉aI g
theorem b7 {g:Gr} (hm:aU g=true) {i:Nat} (hi:i<g.es.length):0≤tl g i∧tl g i<g.n:=(gj hm hi).1
theorem dw {g:Gr} (hm:aU g=true) {i:Nat} (hi:i<g.es.length):0≤hd g i∧hd g i<g.n:=(gj hm hi).2
theorem z7 {g:Gr} (hm:aU g=true) {i:Nat} (hi:i<g.es.length):0<(cB g (aI g)).getD (tl g i).toNat 0↔tl g i∉aI g:=by
 have h:=b7 hm hi
 have e:((tl g i).toNat:Int)=tl g i:=by omega
 rw [kY (by omega),ox hm (by omega),e]
theorem pE {g:Gr} (hm:aU g=true):∀(l:List Int) (b:Int),(∀e∈l,∃i:Nat,e=i∧i<g.es.length)→
 (b= -1∨0≤b)→(l.foldl (fC g (cB g (aI g))) b=b∨∃i:Nat,(i:Int)∈l∧tl g i∉aI g∧l.foldl (fC g (cB g (aI g))) b=tl g i)∧(0≤b→l.foldl (fC g (cB g (aI g))) b≤b)∧
   (∀i:Nat,(i:Int)∈l→tl g i∉aI g→0≤l.foldl (fC g (cB g (aI g))) b∧l.foldl (fC g (cB g (aI g))) b≤tl g i)
 | [],b,_,_=>⟨.inl rfl,fun _=>Int.le_refl _,by simp⟩
 |e::l,b,he,hb=>by
  obtain ⟨i,rfl,hi⟩:=he e List.mem_cons_self
  have htr:=b7 hm hi
  have hw:=z7 hm hi
  have hstep:fC g (cB g (aI g)) b (i:Int)=if tl g i∉aI g∧(b<0∨tl g i<b) then tl g i else b:=by
   simp only [fC,Int.toNat_natCast,hw]
  have hb':fC g (cB g (aI g)) b (i:Int)= -1∨0≤fC g (cB g (aI g)) b (i:Int):=by
   rw [hstep];split
   ·exact .inr htr.1
   ·exact hb
  obtain ⟨h1,h2,h3⟩:=pE hm l (fC g (cB g (aI g)) b (i:Int)) (fun e h=>he e (List.mem_cons_of_mem _ h)) hb'
  simp only [List.foldl_cons]
  generalize hr:l.foldl (fC g (cB g (aI g))) (fC g (cB g (aI g)) b (i:Int))=r at h1 h2 h3 ⊢
  refine ⟨?_, ?_, ?_⟩
  ·rcases h1 with h1|⟨j,hj,h4,h5⟩
   ·rw [hstep] at h1
    split at h1
    ·rename_i hc
     exact .inr ⟨i,by simp,hc.1,h1⟩
    ·exact .inl h1
   ·exact .inr ⟨j,by simp [hj],h4,h5⟩
  ·intro h0
   rw [hstep] at h2
   split at h2
   ·rename_i hc;have:=h2 htr.1;omega
   ·exact h2 h0
  ·intro j hj hjn
   rcases List.mem_cons.1 hj with hj|hj
   ·have:j=i:=Int.ofNat.inj hj
    subst this
    rw [hstep] at h1 h2
    split at h1
    ·rename_i hc
     rw [if_pos hc] at h2
     have:=h2 htr.1
     rcases h1 with h1|⟨q,hq,h4,h5⟩
     ·omega
     ·obtain ⟨i',e',hi'⟩:=he q (List.mem_cons_of_mem _ hq)
      have:q=i':=Int.ofNat.inj e'
      subst this
      have:=b7 hm hi';omega
    ·rename_i hc
     rw [if_neg hc] at h2
     have qA:¬(b<0∨tl g j<b):=fun h=>hc ⟨hjn,h⟩
     have:=h2 (by omega)
     rcases h1 with h1|⟨q,hq,h4,h5⟩
     ·omega
     ·obtain ⟨i',e',hi'⟩:=he q (List.mem_cons_of_mem _ hq)
      have:q=i':=Int.ofNat.inj e'
      subst this
      have:=b7 hm hi';omega
   ·exact h3 j hj hjn
theorem ru {g:Gr} (hm:aU g=true) {a:Nat} (h:∃t,Q g a t):Q g a (iU g (cB g (aI g)) a)∧∀t,Q g a t→iU g (cB g (aI g)) a≤t:=by
 have hin:∀i,i<g.es.length→hd g i=(a:Int)→(i:Int)∈ow g a:=by
  intro i hi hh
  simp only [ow,fA,List.mem_map,List.mem_filter,List.mem_range,decide_eq_true_eq]
  exact ⟨i,⟨hi,hh⟩,rfl⟩
 obtain ⟨h1,_,h3⟩:=pE hm (ow g a) (-1) Cc (.inl rfl)
 have hG:iU g (cB g (aI g)) a=(ow g a).foldl (fC g (cB g (aI g))) (-1):=by simp [iU,s9]
 rw [← hG] at h1 h3
 have hle:∀t,Q g a t→0≤iU g (cB g (aI g)) a∧iU g (cB g (aI g)) a≤t:=by
  rintro t ⟨i,h4,h5,rfl,h6⟩
  exact h3 i (hin i h4 h5) h6
 obtain ⟨t,ht⟩:=h
 have h0:=(hle t ht).1
 refine ⟨?_,fun t ht=>(hle t ht).2⟩
 rcases h1 with h1|⟨i,hi,h4,h5⟩
 ·omega
 ·obtain ⟨i',e',hi',hh⟩:=uG hi
  have:i=i':=Int.ofNat.inj e'
  subst this
  exact ⟨i,hi',hh,h5.symm,by rw [h5];exact h4⟩
theorem ry {g:Gr} (hm:aU g=true) {a:Nat} :∀k,k≤g.es.length→(ef g a k=g.n∨Q g a (ef g a k))∧ef g a k≤g.n∧∀i,i<k→hd g i=(a:Int)→tl g i∉aI g→ef g a k≤tl g i
 |0,_=>⟨.inl rfl,Int.le_refl _,by simp⟩
 |k+1,hk=>by
  obtain ⟨h1,h2,h3⟩:=ry hm (a:=a) k (by omega)
  have htr:=b7 hm (i:=k) (by omega)
  have e:((tl g k).toNat:Int)=tl g k:=by omega
  have hlf:=Ch hm (y:=(tl g k).toNat) (by omega)
  rw [e] at hlf
  rw [mG]
  unfold uI
  split
  ·rename_i hc0
   have hc:hd g k=(a:Int)∧tl g k∉aI g:=⟨hc0.1,hlf.1 hc0.2⟩
   refine ⟨?_,by omega, ?_⟩
   ·by_cases hle:ef g a k≤tl g k
    ·rw [Int.min_eq_left hle];exact h1
    ·rw [Int.min_eq_right (by omega)];exact .inr ⟨k,by omega,hc.1,rfl,hc.2⟩
   ·intro i hi hh hn
    by_cases hik:i=k
    ·subst hik;omega
    ·have:=h3 i (by omega) hh hn;omega
  ·rename_i hc
   refine ⟨h1,h2, ?_⟩
   intro i hi hh hn
   by_cases hik:i=k
   ·subst hik;exact absurd ⟨hh,hlf.2 hn⟩ hc
   ·exact h3 i (by omega) hh hn
theorem back_eq {g:Gr} (hm:aU g=true) {a:Nat} (h:∃t,Q g a t):iU g (cB g (aI g)) a=ef g a g.es.length∧Q g a (ef g a g.es.length):=by
 obtain ⟨h1,h2⟩:=ru hm h
 obtain ⟨h3,h4,h5⟩:=ry hm (a:=a) g.es.length (Nat.le_refl _)
 have hb:ef g a g.es.length≤iU g (cB g (aI g)) a:=by
  obtain ⟨i,h6,h7,h8,h9⟩:=h1
  rw [← h8] at h9 ⊢
  exact h5 i h6 h7 h9
 have hlt:iU g (cB g (aI g)) a<g.n:=by
  obtain ⟨i,h6,h7,h8,h9⟩:=h1
  rw [← h8];exact (b7 hm h6).2
 rcases h3 with h3|h3
 ·omega
 ·exact ⟨by have:=h2 _ h3;omega,h3⟩
theorem FG {g:Gr} (hm:aU g=true) {a:Nat} (ha:a<g.n.toNat) (h:(a:Int)∉aI g):∃t,Q g a t:=by
 have hw:=(ox hm ha).2 h
 simp only [wt,h,if_false] at hw
 obtain ⟨i,hi,hp⟩:=List.countP_pos_iff.1 (Int.natCast_pos.1 hw)
 simp only [Bool.and_eq_true,decide_eq_true_eq,Bool.not_eq_true',decide_eq_false_iff_not] at hp
 exact ⟨tl g i,i,List.mem_range.1 hi,hp.1,rfl,hp.2⟩
theorem Cj {g:Gr} (hm:aU g=true):∀(f f':Nat) (way:List Int) (a:Nat),way.Nodup→a<g.n.toNat→(a:Int)∉aI g→left g way≤f→left g way≤f'→
 j7 g (cB g (aI g)) f way a=mF g f' way a∧(0≤(mF g f' way a).2∧(mF g f' way a).2∈(mF g f' way a).1∧(mF g f' way a).1.Nodup)
 |f,f',way,a,hd,ha,hn,h1,h2=>by
  by_cases hmem:(a:Int)∈way
  ·rw [jF (.inr hmem),wm hmem]
   exact ⟨rfl,by simp only;omega,hmem,hd⟩
  ·have hla:=iA ha hmem
   cases f with
   |zero=>omega
   |succ f=>
    cases f' with
    |zero=>omega
    |succ f'=>
     obtain ⟨hb,hq⟩:=back_eq hm (FG hm ha hn)
     obtain ⟨i,hi,_,ht,Jb⟩:=hq
     have htr:=b7 hm hi
     rw [ht] at htr
     obtain ⟨b,Jc⟩:∃b:Nat,ef g a g.es.length=b:=⟨(ef g a g.es.length).toNat,by omega⟩
     rw [Jc] at hb Jb htr
     have hd':(way++ [(a:Int)]).Nodup:=by
      rw [List.nodup_append]
      refine ⟨hd,by simp, ?_⟩
      intro x hx y hy e
      simp at hy
      rw [← hy, ← e] at hmem;exact hmem hx
     have ih:=Cj hm f f' (way++ [(a:Int)]) b hd' (by omega) Jb (by omega) (by omega)
     have e1:j7 g (cB g (aI g)) (f+1) way a=j7 g (cB g (aI g)) f (way++ [(a:Int)]) b:=by
      simp only [j7];rw [if_neg (by intro h;rcases h with h|h;omega;exact hmem h),hb]
     have e2:mF g (f'+1) way a=mF g f' (way++ [(a:Int)]) b:=by
      simp only [mF];rw [if_neg hmem,Jc]
     rw [e1,e2];exact ih
theorem uK {g:Gr} {way:List Int} :left g way≤g.n.toNat:=by
 unfold left
 have:=List.countP_le_length (p:=fun y:Nat=> !decide ((y:Int)∈way)) (l:=List.range g.n.toNat)
 simpa using this
theorem rz {l:List Int} (h:l.Nodup) {i j:Nat} (hi:i<l.length) (hj:j<l.length) (e:l.getD i 0=l.getD j 0):i=j:=by
 rw [List.getD_eq_getElem?_getD,List.getD_eq_getElem?_getD,List.getElem?_eq_getElem hi,List.getElem?_eq_getElem hj] at e
 exact (List.getElem_inj h).1 e
theorem Ck {l:List Int} {i:Nat} (hi:i<l.length):l.reverse.getD i 0=l.getD (l.length - 1 - i) 0:=by
 rw [List.getD_eq_getElem?_getD,List.getD_eq_getElem?_getD,List.getElem?_reverse hi]
theorem D9 {l:List Int} (hd:l.Nodup) (h0:0<l.length):kC l.reverse=td l:=by
 obtain ⟨m,pq,hm2,Oa⟩:=dr (iB h0)
 have JT:0<l.reverse.length:=by simpa using h0
 obtain ⟨k,xA,hk2,I7⟩:=dr (iB JT)
 have hmin:gT l.reverse=gT l:=by
  have h1:=uJ (List.mem_reverse.2 (iB h0))
  have h2:=uJ (List.mem_reverse.1 (iB JT))
  omega
 rw [List.length_reverse] at hk2
 have hk:l.length - 1 - k=m:=rz hd (by omega) hm2 (by rw [← Ck hk2,I7,Oa,hmin])
 have e1:kC l.reverse=l.reverse.drop k++l.reverse.take k:=by
  simp only [kC,xA,Int.toNat_natCast]
 have e2:td l=pS l m l.length:=by simp only [td,pq,Int.toNat_natCast]
 rw [e1,e2]
 refine List.ext_getElem? fun i=> ?_
 by_cases hi:i<l.length
 ·have hr:(pS l m l.length)[i]? =some (l.getD ((m+l.length - i) % l.length) 0):=by
   simp [pS,List.getElem?_range hi]
  rw [hr]
  by_cases hik:i<l.length - k
  ·rw [List.getElem?_append_left (by simp;omega),List.getElem?_drop,List.getElem?_reverse (by omega)]
   have:(m+l.length - i) % l.length=m - i:=by
    rw [show m+l.length - i=(m - i)+l.length from by omega,Nat.add_mod_right,Nat.mod_eq_of_lt (by omega)]
   rw [this,show l.length - 1 - (k+i)=m - i from by omega,List.getD_eq_getElem?_getD,List.getElem?_eq_getElem (by omega)];rfl
  ·rw [List.getElem?_append_right (by simp;omega),List.length_drop,List.length_reverse,List.getElem?_take,if_pos (by omega),List.getElem?_reverse (by omega)]
   have:(m+l.length - i) % l.length=m+l.length - i:=Nat.mod_eq_of_lt (by omega)
   rw [this,show l.length - 1 - (i - (l.length - k))=m+l.length - i from by omega,List.getD_eq_getElem?_getD,List.getElem?_eq_getElem (by omega)];rfl
 ·rw [List.getElem?_eq_none (by simp;omega),List.getElem?_eq_none (by simp [pS];omega)]
theorem FH {g:Gr} (hm:aU g=true):jE g=k7 g:=by
 have hn:=aZ hm
 rcases start_eq hm with ⟨h1,h2⟩|⟨a,ha,h1,h2,h3⟩
 ·have:jD g=([], -1):=by
   unfold jD;rw [h1];exact jF (.inl (by omega)) _
  simp only [jE,k7,this]
  rw [if_pos (by omega),if_pos h2]
 ·obtain ⟨he,h4,h5,h6⟩:=Cj hm g.n.toNat (g.n.toNat+1) [] a (by simp) ha h3 uK (Nat.le_succ_of_le uK)
  have hw:jD g=nF g:=by
   unfold jD nF;rw [h1,h2];exact he
  have hr:mF g (g.n.toNat+1) [] a=nF g:=by unfold nF;rw [h2]
  rw [hr] at h4 h5 h6
  simp only [jE,k7,hw]
  rw [if_neg (by omega),if_neg (by omega)]
  obtain ⟨k,xA,hk2,_⟩:=dr h5
  rw [xA,Int.toNat_natCast]
  exact D9 (List.Pairwise.drop h6) (by simp;omega)
theorem FI (g:Gr):cr g=fZ g:=by
 unfold cr fZ
 cases hm:aU g with
 |false=>simp [gO,hm]
 |true=>rw [FH hm]
end Go.Ab
end
section
namespace Go.Ab
end Go.Ab
end
section
namespace Go.Ab
open Go.Proofs
attribute [local congr] ACall.congr
set_option maxRecDepth 10000
def g0:Gr:=⟨3, [(0,1),(1,2),(2,1)]⟩
end Go.Ab
end
section
namespace Go.Ab
open Go.Proofs
attribute [local congr] ACall.congr
set_option maxRecDepth 10000
def AU (g:Gr):Bool:=decide (g.n≤((aI g).length:Int))
def Ob (g:Gr):List Int:=if AU g then aI g else []
def ga (l:List Int) (n:Int):Bool:=decide ((l.length:Int)=n)&&(List.range n.toNat).all fun x:Nat=>decide ((x:Int)∈l)
theorem cT {l:List Int} {x:Int} :decide (dB l x<0)= !decide (x∈l):=by
 rw [Bool.eq_iff_iff]
 simp only [decide_eq_true_eq,Bool.not_eq_true',decide_eq_false_iff_not]
 constructor
 ·intro h hm
  obtain ⟨k,hk,_⟩:=dr hm
  omega
 ·intro h
  rcases fk (f:=fun y:Int=>decide (x=y)) (l:=l) 0 with ⟨h1,_⟩|⟨q,_,h2,h3,_⟩
  ·unfold dB;omega
  ·exact absurd (by rw [of_decide_eq_true h3];exact gF h2) h
theorem cn (l:List Int) (n:Int) (hl:l.length≤9223372036854775807):Spec Tryz.prog 140 (Args [.d (sI l),eN n]) [] (eB (ga l n)) []:=by
 (refine Spec.intro (C:=T.cfg [] []) (rs:= [.t 4]) (T.aq _ _) Tryz.func140 rfl rfl Tryz.ntmps140 Tryz.results140 (by simp [AObj.isNest]) (by simp [AObj.isNest]) (by kernel_rfl) ?_;intro X hX hP hC aN aO vals hA;refine ⟨_,by simp,hA, ?_⟩;have af:X.P.follows .mixedOrders=true:=(by rw [hP];exact T.mixed);clear aN aO)
 repeat' (first|fail|((first|((with_reducible (first|apply oA|apply oB));exact rfl;intro K hK)|(refine hK _ ?_;clear hK K)|((with_reducible (first|apply oG|apply oH));iterate 3 exact rfl)|((with_reducible apply oI);(iterate 2 exact rfl);intro K hK)|(with_reducible (first|apply wI|apply wJ|apply wK)));try simp only [go_sem,simprocAttr,cT])|fail|(with_reducible (first|apply oC|apply oJ|exact oK|apply wA|apply wB|apply wC hX hC|apply wD hX hC|apply wE hX hC af|apply wF hX hC af|apply wG|apply wH|apply And.intro))|((with_reducible refine oD ?_ ?_);first|fail|kernel_rfl)|((with_reducible (first|apply oE|apply oF));(iterate 3 exact rfl);all_goals (intro h;first|(exact absurd h (by decide))|((try simp only [go_sem,simprocAttr,cT] at h);(try with_reducible intro K hK);simp only [go_sem,simprocAttr,cT])))|((first|((with_reducible apply wL);exact rfl)|((with_reducible apply wM);exact rfl));all_goals (try ((with_reducible intro h);first|(exact absurd h (by decide))|(try simp only [go_sem,simprocAttr,cT] at h))))|omega|((first|refine aa hX hC hP (bh l (k:Int) hl) rfl rfl rfl (by simp only [go_sem,simprocAttr,cT]) rfl ?_);try simp only [go_sem,simprocAttr,cT])|(intro h))
 ·have hne:¬(l.length:Int)=n:=by assumption
  simp [ga,hne]
 have sG:(l.length:Int)=n:=by assumption
 refine ak (fun k:Nat=>(k:Int)≤n∧∀j,j<k→(j:Int)∈l) (fun k=>⟨[(0, .d (sI l)),(1,eN n),(5,eN k)], []⟩) (fun k=>n.toNat - k) 0 (by simp;omega) ?_ ?_
 ·(refine ⟨bN ?_,fun _ _ h=>h⟩;simp [go_sem,simprocAttr,cT])
 rintro k ⟨hk,hin⟩
 repeat' (first|fail|((first|((with_reducible (first|apply oA|apply oB));exact rfl;intro K hK)|(refine hK _ ?_;clear hK K)|((with_reducible (first|apply oG|apply oH));iterate 3 exact rfl)|((with_reducible apply oI);(iterate 2 exact rfl);intro K hK)|(with_reducible (first|apply wI|apply wJ|apply wK)));try simp only [go_sem,simprocAttr,cT])|fail|(with_reducible (first|apply oC|apply oJ|exact oK|apply wA|apply wB|apply wC hX hC|apply wD hX hC|apply wE hX hC af|apply wF hX hC af|apply wG|apply wH|apply And.intro))|((with_reducible refine oD ?_ ?_);first|fail|kernel_rfl)|((with_reducible (first|apply oE|apply oF));(iterate 3 exact rfl);all_goals (intro h;first|(exact absurd h (by decide))|((try simp only [go_sem,simprocAttr,cT] at h);(try with_reducible intro K hK);simp only [go_sem,simprocAttr,cT])))|((first|((with_reducible apply wL);exact rfl)|((with_reducible apply wM);exact rfl));all_goals (try ((with_reducible intro h);first|(exact absurd h (by decide))|(try simp only [go_sem,simprocAttr,cT] at h))))|omega|((first|refine aa hX hC hP (bh l (k:Int) hl) rfl rfl rfl (by simp only [go_sem,simprocAttr,cT]) rfl ?_);try simp only [go_sem,simprocAttr,cT])|(intro h))
 ·have hlt:(k:Int)<n:=by assumption
  have hm:(List.range n.toNat).all (fun x:Nat=>decide ((x:Int)∈l))=false:=by
   rw [List.all_eq_false]
   exact ⟨k,List.mem_range.2 (by omega),by simpa using h⟩
  simp only [ga,hm,Bool.and_false]
 ·refine ⟨k+1,⟨by omega,fun j hj=> ?_⟩, ?_,by omega⟩
  ·by_cases hjk:j=k
   ·subst hjk;exact h
   ·exact hin j (by omega)
  ·(refine ⟨bN ?_,fun _ _ h=>h⟩;simp [go_sem,simprocAttr,cT])
 ·have hm:(List.range n.toNat).all (fun x:Nat=>decide ((x:Int)∈l))=true:=by
   rw [List.all_eq_true]
   intro x hx
   exact decide_eq_true (hin x (by have:=List.mem_range.1 hx;omega))
  simp only [ga,hm,Bool.and_true]
  exact (decide_eq_true sG).symm
end Go.Ab
end
section
namespace Go.Ab
open Go.Proofs
attribute [local congr] ACall.congr
set_option maxRecDepth 10000
theorem count_le:∀(xs l:List Int),xs.Nodup→(∀x∈xs,x∈l)→xs.length≤l.countP (fun y=>decide (y∈xs))
 | [],_,_,_=>Nat.zero_le _
 |a::r,l,hd,h=>by
  obtain ⟨h1,h2⟩:=List.nodup_cons.1 hd
  have ih:=count_le r l h2 fun x hx=>h x (List.mem_cons_of_mem _ hx)
  have hp:=j6 (p:=fun y=>decide (y∈a::r)) (q:=fun y=>decide (y∈r)) (r:=fun y=>decide (y=a)) (l:=l) (fun y _=>by
   by_cases hy:y=a
   ·subst hy;simp [h1]
   ·simp [hy])
  have ha:0<l.countP (fun y=>decide (y=a)):=List.countP_pos_iff.2 ⟨a,h a List.mem_cons_self,by simp⟩
  rw [hp,List.length_cons];omega
def jg (n:Nat):List Int:=(List.range n).map Int.ofNat
theorem ej {n:Nat} {x:Int} :x∈jg n↔0≤x∧x<n:=by
 simp only [jg,List.mem_map,List.mem_range]
 constructor
 ·rintro ⟨a,h,rfl⟩;simp;omega
 ·intro h;exact ⟨x.toNat,by omega,by simp;omega⟩
theorem ke {n:Nat} :(jg n).Nodup:=by
 unfold jg
 exact List.Pairwise.map _ (fun a b h e=>h (Int.ofNat.inj e)) List.nodup_range
theorem bX {l:List Int} {n:Int} :ga l n=true↔(l.length:Int)=n∧∀x∈jg n.toNat,x∈l:=by
 simp only [ga,Bool.and_eq_true,decide_eq_true_eq,List.all_eq_true,List.mem_range]
 constructor
 ·rintro ⟨h1,h2⟩
  refine ⟨h1,fun x hx=> ?_⟩
  obtain ⟨a,b⟩:=ej.1 hx
  have:=h2 x.toNat (by omega)
  rwa [show ((x.toNat:Nat):Int)=x from by omega] at this
 ·rintro ⟨h1,h2⟩
  exact ⟨h1,fun x hx=>h2 _ (ej.2 (by omega))⟩
theorem rC {l:List Int} {n:Int} (h:ga l n=true):∀x∈l,0≤x∧x<n:=by
 obtain ⟨h1,h2⟩:=bX.1 h
 have hc:=count_le (jg n.toNat) l ke h2
 have hlen:(jg n.toNat).length=n.toNat:=by simp [jg]
 have he:l.countP (fun y=>decide (y∈jg n.toNat))=l.length:=by
  have:=List.countP_le_length (p:=fun y=>decide (y∈jg n.toNat)) (l:=l)
  omega
 intro x hx
 have:=List.countP_eq_length.1 he x hx
 have:=ej.1 (of_decide_eq_true this)
 omega
def wq (n:Nat) (l:List Int):Nat→List Int
 |0=>List.replicate n 0
 |k+1=>(wq n l k).set (l.getD k 0).toNat k
theorem atK_length {n:Nat} {l:List Int} :∀ {k:Nat},(wq n l k).length=n
 |0=>by simp [wq]
 |k+1=>by simp [wq,atK_length (k:=k)]
def Cl (g:Gr) (l:List Int) (j:Nat):Bool:=(List.range j).all fun i=>decide ((wq g.n.toNat l l.length).getD (tl g i).toNat 0<(wq g.n.toNat l l.length).getD (hd g i).toNat 0)
def uL (g:Gr) (l:List Int):Bool:=ga l g.n&&Cl g l g.es.length
attribute [go_sem] atK_length
end Go.Ab
end
section
namespace Go.Ab
def PG (g:Gr) (out:List Int):Prop:=∀p,p<out.length→out.getD p 0=dB (cB g (out.take p)) 0∧0≤out.getD p 0
theorem yN {g:Gr} (hm:aU g=true) (h:AU g=true):ga (aI g) g.n=true:=by
 obtain ⟨hP,_,_⟩:=gm hm
 have hn:=aZ hm
 have hf:=hP.fuel
 have hok:=of_decide_eq_true h
 refine bX.2 ⟨by omega,fun x hx=> ?_⟩
 obtain ⟨h1,h2⟩:=ej.1 hx
 have h0:(List.range g.n.toNat).countP (fun y:Nat=> !decide ((y:Int)∈aI g))=0:=by omega
 have:=List.countP_eq_zero.1 h0 x.toNat (List.mem_range.2 (by omega))
 rw [show ((x.toNat:Nat):Int)=x from by omega] at this
 simpa using this
theorem yO {g:Gr} (hm:aU g=true) (h:AU g=false):∃y:Nat,y<g.n.toNat∧(y:Int)∉aI g:=by
 obtain ⟨hP,_,_⟩:=gm hm
 have hn:=aZ hm
 have hf:=hP.fuel
 have hok:=of_decide_eq_false h
 have h0:0<(List.range g.n.toNat).countP (fun y:Nat=> !decide ((y:Int)∈aI g)):=by omega
 obtain ⟨y,hy,hp⟩:=List.countP_pos_iff.1 h0
 exact ⟨y,List.mem_range.1 hy,by simpa using hp⟩
theorem Cm {g:Gr} {l:List Int} (h:uL g l=true) {i:Nat} (hi:i<g.es.length):(wq g.n.toNat l l.length).getD (tl g i).toNat 0<(wq g.n.toNat l l.length).getD (hd g i).toNat 0:=by
 simp only [uL,Bool.and_eq_true] at h
 have:=List.all_eq_true.1 h.2 i (List.mem_range.2 hi)
 exact of_decide_eq_true this
theorem rD {n:Nat} {l:List Int} :∀ {k:Nat} {y:Nat},0≤(wq n l k).getD y 0
 |0,y=>by
  simp only [wq,List.getD_eq_getElem?_getD,List.getElem?_replicate]
  split<;>simp
 |k+1,y=>by
  have ih:=rD (n:=n) (l:=l) (k:=k) (y:=y)
  simp only [wq,List.getD_eq_getElem?_getD,List.getElem?_set] at ih ⊢
  split
  ·split<;>simp
  ·exact ih
theorem uM {l:List Int} {i j:Nat} (hij:i<j) (hj:j<l.length) (e:l.getD i 0=l.getD j 0):∀x∈l,x∈l.eraseIdx i:=by
 intro x hx
 obtain ⟨k,hk,rfl⟩:=List.getElem_of_mem hx
 rw [List.mem_iff_getElem?]
 rcases Nat.lt_trichotomy k i with h|h|h
 ·exact ⟨k,by rw [List.getElem?_eraseIdx,if_pos h,List.getElem?_eq_getElem hk]⟩
 ·subst h
  refine ⟨j - 1, ?_⟩
  rw [List.getElem?_eraseIdx,if_neg (by omega),show j - 1+1=j from by omega,List.getElem?_eq_getElem hj]
  rw [List.getD_eq_getElem?_getD,List.getD_eq_getElem?_getD,List.getElem?_eq_getElem hk,List.getElem?_eq_getElem hj] at e
  exact congrArg some e.symm
 ·exact ⟨k - 1,by rw [List.getElem?_eraseIdx,if_neg (by omega),show k - 1+1=k from by omega,List.getElem?_eq_getElem hk]⟩
theorem kf {l:List Int} {n:Int} (h:ga l n=true) {i j:Nat} (hi:i<l.length) (hj:j<l.length) (e:l.getD i 0=l.getD j 0):i=j:=by
 obtain ⟨h1,h2⟩:=bX.1 h
 have key:∀i j,i<j→j<l.length→l.getD i 0=l.getD j 0→False:=by
  intro i j hij hj e
  have hc:=count_le (jg n.toNat) (l.eraseIdx i) ke fun x hx=>uM hij hj e x (h2 x hx)
  have hlen:(jg n.toNat).length=n.toNat:=by simp [jg]
  have hle:=List.countP_le_length (p:=fun y=>decide (y∈jg n.toNat)) (l:=l.eraseIdx i)
  rw [List.length_eraseIdx_of_lt (by omega)] at hle
  omega
 rcases Nat.lt_trichotomy i j with h|h|h
 ·exact (key i j h hj e).elim
 ·exact h
 ·exact (key j i h hi e.symm).elim
theorem uN {l:List Int} {n:Int} (h:ga l n=true) {p:Nat} :∀ {k:Nat},p<k→k≤l.length→(wq n.toNat l k).getD (l.getD p 0).toNat 0=p
 |0,hp,_=>by omega
 |k+1,hp,hk=>by
  have hlo:=rC h
  have hp1:=hlo _ (gF (l:=l) (m:=p) (by omega))
  have xA:=hlo _ (gF (l:=l) (m:=k) (by omega))
  simp only [wq,List.getD_eq_getElem?_getD (l:=(wq n.toNat l k).set _ _),List.getElem?_set,atK_length]
  by_cases hpk:p=k
  ·subst hpk
   rw [if_pos rfl,if_pos (by omega)];rfl
  ·have hne:¬(l.getD k 0).toNat=(l.getD p 0).toNat:=fun e=>hpk (kf h (i:=p) (j:=k) (by omega) (by omega) (by omega))
   rw [if_neg hne, ← List.getD_eq_getElem?_getD]
   exact uN h (by omega) (by omega)
theorem z8 {g:Gr} (hm:aU g=true) (h:AU g=true):uL g (aI g)=true:=by
 have he:=yN hm h
 obtain ⟨hP,hO,_⟩:=gm hm
 have hall:=(bX.1 he).2
 simp only [uL,he,Bool.true_and,Cl,List.all_eq_true,List.mem_range,decide_eq_true_eq]
 intro i hi
 have hh:=dw hm hi
 obtain ⟨p,hp,e⟩:=List.getElem_of_mem (hall (hd g i) (ej.2 (by omega)))
 have e':(aI g).getD p 0=hd g i:=by rw [List.getD_eq_getElem?_getD,List.getElem?_eq_getElem hp];exact e
 have ht:=hO p hp i hi e'.symm
 rw [List.mem_iff_getElem?] at ht
 obtain ⟨q,hq⟩:=ht
 rw [List.getElem?_take] at hq
 split at hq
 ·rename_i N9
  have e2:(aI g).getD q 0=tl g i:=by rw [List.getD_eq_getElem?_getD,hq];rfl
  rw [← e', ← e2,uN he hp (Nat.le_refl _),uN he (by omega) (Nat.le_refl _)]
  omega
 ·cases hq
end Go.Ab
end
section
namespace Go.Ab
open Go.Proofs
attribute [local congr] ACall.congr
set_option maxRecDepth 10000
end Go.Ab
end
section
namespace Go.Ab
open Go.Proofs
attribute [local congr] ACall.congr
set_option maxRecDepth 10000
def gz:Gr:=⟨0, []⟩
def vz:D:= .pt [.sc (.int .i64 0), .sl 2 [], .sl 1 [], .sl 1 []]
def bp (f:Edge→Int) (g:Gr) (x:Int):List Int:=if 0≤x∧x<g.n then bg f g.es g.es.length x else []
theorem rH (f:Edge→Int) (g:Gr) (hm:aU g=true) (x:Int):Spec Tryz.prog 105 (Args [.d (vw g), .d (.sl 1 (D6 f g)),eN x]) [] (.d (sI (bp f g x))) []:=by
 rw [ah]
 have hn:=aZ hm
 have hl':(bg f g.es g.es.length x).length≤1000000:=by have:=jI (f:=f) (es:=g.es) (k:=g.es.length) (x:=x);omega
 (refine Spec.intro (C:=T.cfg [] []) (rs:= [.t 6]) (T.aq _ _) Tryz.func105 rfl rfl Tryz.ntmps105 Tryz.results105 (by simp [AObj.isNest]) (by simp [AObj.isNest]) (by kernel_rfl) ?_;intro X hX hP hC aN aO vals hA;refine ⟨_,by simp,hA, ?_⟩;have af:X.P.follows .mixedOrders=true:=(by rw [hP];exact T.mixed);clear aN aO)
 by_cases hx:0≤x∧x<g.n
 ·have hv:=nw (f:=f) (g:=g) (x:=x.toNat) (by omega)
  have he:fA f g.es g.es.length x.toNat=bg f g.es g.es.length x:=by rw [k4,show ((x.toNat:Nat):Int)=x from by omega]
  rw [he] at hv
  have an:decide (x<0)=false:=decide_eq_false (by omega)
  have aj:decide (g.n≤x)=false:=decide_eq_false (by omega)
  have ht:bp f g x=bg f g.es g.es.length x:=if_pos hx
  repeat' (first|fail|((first|((with_reducible (first|apply oA|apply oB));exact rfl;intro K hK)|(refine hK _ ?_;clear hK K)|((with_reducible (first|apply oG|apply oH));iterate 3 exact rfl)|((with_reducible apply oI);(iterate 2 exact rfl);intro K hK)|(with_reducible (first|apply wI|apply wJ|apply wK)));try simp only [go_sem,simprocAttr,hv,an,aj])|fail|(with_reducible (first|apply oC|apply oJ|exact oK|apply wA|apply wB|apply wC hX hC|apply wD hX hC|apply wE hX hC af|apply wF hX hC af|apply wG|apply wH|apply And.intro))|((with_reducible refine oD ?_ ?_);first|fail|kernel_rfl)|((with_reducible (first|apply oE|apply oF));(iterate 3 exact rfl);all_goals (intro h;first|(exact absurd h (by decide))|((try simp only [go_sem,simprocAttr,hv,an,aj] at h);(try with_reducible intro K hK);simp only [go_sem,simprocAttr,hv,an,aj])))|((first|((with_reducible apply wL);exact rfl)|((with_reducible apply wM);exact rfl));all_goals (try ((with_reducible intro h);first|(exact absurd h (by decide))|(try simp only [go_sem,simprocAttr,hv,an,aj] at h))))|omega|((first|first|refine aa hX hC hP (kX (bg f g.es g.es.length x) hl') rfl rfl rfl (by simp only [go_sem,simprocAttr,hv,an,aj]) rfl ?_);try simp only [go_sem,simprocAttr,hv,an,aj])|(intro h))
  simp [ht]
 ·have ht:bp f g x= []:=if_neg hx
  repeat' (first|fail|((first|((with_reducible (first|apply oA|apply oB));exact rfl;intro K hK)|(refine hK _ ?_;clear hK K)|((with_reducible (first|apply oG|apply oH));iterate 3 exact rfl)|((with_reducible apply oI);(iterate 2 exact rfl);intro K hK)|(with_reducible (first|apply wI|apply wJ|apply wK)));try simp only [go_sem,simprocAttr,ht])|fail|(with_reducible (first|apply oC|apply oJ|exact oK|apply wA|apply wB|apply wC hX hC|apply wD hX hC|apply wE hX hC af|apply wF hX hC af|apply wG|apply wH|apply And.intro))|((with_reducible refine oD ?_ ?_);first|fail|kernel_rfl)|((with_reducible (first|apply oE|apply oF));(iterate 3 exact rfl);all_goals (intro h;first|(exact absurd h (by decide))|((try simp only [go_sem,simprocAttr,ht] at h);(try with_reducible intro K hK);simp only [go_sem,simprocAttr,ht])))|((first|((with_reducible apply wL);exact rfl)|((with_reducible apply wM);exact rfl));all_goals (try ((with_reducible intro h);first|(exact absurd h (by decide))|(try simp only [go_sem,simprocAttr,ht] at h))))|omega|((first|first|refine aa hX hC hP (kX (bg f g.es g.es.length x) hl') rfl rfl rfl (by simp only [go_sem,simprocAttr,ht]) rfl ?_);try simp only [go_sem,simprocAttr,ht])|(intro h))
theorem ic (g:Gr) (hm:aU g=true) (x:Int):Spec Tryz.prog 78 (Args [.d (vw g),eN x]) [] (.d (sI (bp (·.1) g x))) []:=by
 (refine Spec.intro (C:=T.cfg [] []) (rs:= [.t 4]) (T.aq _ _) Tryz.func78 rfl rfl Tryz.ntmps78 Tryz.results78 (by simp [AObj.isNest]) (by simp [AObj.isNest]) (by kernel_rfl) ?_;intro X hX hP hC aN aO vals hA;refine ⟨_,by simp,hA, ?_⟩;have af:X.P.follows .mixedOrders=true:=(by rw [hP];exact T.mixed);clear aN aO)
 repeat' (first|fail|((first|((with_reducible (first|apply oA|apply oB));exact rfl;intro K hK)|(refine hK _ ?_;clear hK K)|((with_reducible (first|apply oG|apply oH));iterate 3 exact rfl)|((with_reducible apply oI);(iterate 2 exact rfl);intro K hK)|(with_reducible (first|apply wI|apply wJ|apply wK)));try simp only [go_sem,simprocAttr,ah])|fail|(with_reducible (first|apply oC|apply oJ|exact oK|apply wA|apply wB|apply wC hX hC|apply wD hX hC|apply wE hX hC af|apply wF hX hC af|apply wG|apply wH|apply And.intro))|((with_reducible refine oD ?_ ?_);first|fail|kernel_rfl)|((with_reducible (first|apply oE|apply oF));(iterate 3 exact rfl);all_goals (intro h;first|(exact absurd h (by decide))|((try simp only [go_sem,simprocAttr,ah] at h);(try with_reducible intro K hK);simp only [go_sem,simprocAttr,ah])))|((first|((with_reducible apply wL);exact rfl)|((with_reducible apply wM);exact rfl));all_goals (try ((with_reducible intro h);first|(exact absurd h (by decide))|(try simp only [go_sem,simprocAttr,ah] at h))))|omega|((first|first|refine aa hX hC hP (rH (·.1) g hm x) rfl rfl rfl (by simp only [go_sem,simprocAttr,ah]) rfl ?_);try simp only [go_sem,simprocAttr,ah])|(intro h))
theorem jJ (g:Gr) (hm:aU g=true) (x:Int):Spec Tryz.prog 98 (Args [.d (vw g),eN x]) [] (.d (sI (bp (·.2) g x))) []:=by
 (refine Spec.intro (C:=T.cfg [] []) (rs:= [.t 4]) (T.aq _ _) Tryz.func98 rfl rfl Tryz.ntmps98 Tryz.results98 (by simp [AObj.isNest]) (by simp [AObj.isNest]) (by kernel_rfl) ?_;intro X hX hP hC aN aO vals hA;refine ⟨_,by simp,hA, ?_⟩;have af:X.P.follows .mixedOrders=true:=(by rw [hP];exact T.mixed);clear aN aO)
 repeat' (first|fail|((first|((with_reducible (first|apply oA|apply oB));exact rfl;intro K hK)|(refine hK _ ?_;clear hK K)|((with_reducible (first|apply oG|apply oH));iterate 3 exact rfl)|((with_reducible apply oI);(iterate 2 exact rfl);intro K hK)|(with_reducible (first|apply wI|apply wJ|apply wK)));try simp only [go_sem,simprocAttr,ah])|fail|(with_reducible (first|apply oC|apply oJ|exact oK|apply wA|apply wB|apply wC hX hC|apply wD hX hC|apply wE hX hC af|apply wF hX hC af|apply wG|apply wH|apply And.intro))|((with_reducible refine oD ?_ ?_);first|fail|kernel_rfl)|((with_reducible (first|apply oE|apply oF));(iterate 3 exact rfl);all_goals (intro h;first|(exact absurd h (by decide))|((try simp only [go_sem,simprocAttr,ah] at h);(try with_reducible intro K hK);simp only [go_sem,simprocAttr,ah])))|((first|((with_reducible apply wL);exact rfl)|((with_reducible apply wM);exact rfl));all_goals (try ((with_reducible intro h);first|(exact absurd h (by decide))|(try simp only [go_sem,simprocAttr,ah] at h))))|omega|((first|first|refine aa hX hC hP (rH (·.2) g hm x) rfl rfl rfl (by simp only [go_sem,simprocAttr,ah]) rfl ?_);try simp only [go_sem,simprocAttr,ah])|(intro h))
end Go.Ab
end
section
namespace Go.Ab
open Go.Proofs
attribute [local congr] ACall.congr
set_option maxRecDepth 10000
abbrev It:=Int × Int × Int
def rT (t:It):List D:= [.sc (.int .i64 t.1), .sc (.int .i64 t.2.1), .sc (.int .i64 t.2.2)]
def eT (t:It):AV:= .agg [.d (.sc (.int .i64 t.1)), .d (.sc (.int .i64 t.2.1)), .d (.sc (.int .i64 t.2.2))]
def sT (ts:List It):D:= .sl 3 (ts.map rT)
theorem getD_rT (ps:List It) (i:Nat):(ps.map rT).getD i [.sc (.int .i64 0), .sc (.int .i64 0), .sc (.int .i64 0)]=rT (ps.getD i (0,0,0)):=by
 simp only [List.getD_eq_getElem?_getD,List.getElem?_map]
 cases ps[i]? <;>rfl
theorem rT_eq (t:It):rT t= [.sc (.int .i64 t.1), .sc (.int .i64 t.2.1), .sc (.int .i64 t.2.2)]:=rfl
attribute [go_sem] getD_rT rT_eq eT sT
theorem ER {l:List Int} :∀r∈l.map rI,∀x∈r,∃v,x=D.sc v:=by
 intro r hr x hx
 obtain ⟨y,_,rfl⟩:=List.mem_map.1 hr
 simp only [rI,List.mem_singleton] at hx
 exact ⟨_,hx⟩
theorem ES {l:List It} :∀r∈l.map rT,∀x∈r,∃v,x=D.sc v:=by
 intro r hr x hx
 obtain ⟨y,_,rfl⟩:=List.mem_map.1 hr
 simp only [rT,List.mem_cons,List.not_mem_nil,or_false] at hx
 rcases hx with h|h|h<;>exact ⟨_,h⟩
theorem aK {α:Type} {l:List α} {m:Nat} {d:α} (h:m<l.length):l.getD m d∈l:=by
 rw [List.getD_eq_getElem?_getD,List.getElem?_eq_getElem h];exact List.getElem_mem h
theorem pF (ps:List It) (hl:ps.length≤1000000):
 Spec Tryz.prog 116 (Args [.d (sT ps)]) [] (.ref 10000) [(10000, .tip 96 3 (ps.map rT))]:=by
 (refine Spec.fM (C:=T.cfg [] []) (rs:= [.t 2]) [(10000,7)] (T.aq _ _) Tryz.func116 rfl rfl Tryz.ntmps116 Tryz.results116 (by simp [AObj.isNest]) (by simp [AObj.isNest]) (by first|(simp [look];done)|(simp [asN];done)|(intro l hl;simp only [asN];repeat (rw [if_neg (fun e=>by subst e;simp [look] at hl)]))) (by first|(simp [look];done)|(simp [asN];done)|(intro l hl;simp only [asN];repeat (rw [if_neg (fun e=>by subst e;simp [look] at hl)]))) (by kernel_rfl) ?_;intro X hX hP hC aN aO vals hA;refine ⟨_,by simp,hA, ?_⟩;have af:X.P.follows .mixedOrders=true:=(by rw [hP];exact T.mixed);clear aN aO)
 repeat' (first|(show cH _ .ret _ _;(try simp only [go_sem,simprocAttr]);refine j4 hX 2 7 (.tip 96 3 []) ?_ ?_ (by decide) ⟨96,3,by decide, .inr rfl⟩ ?_;(iterate 2 (focus (simp only [go_sem,simprocAttr];done)));simp only [go_sem,simprocAttr])|((first|((with_reducible (first|apply oA|apply oB));exact rfl;intro K hK)|(refine hK _ ?_;clear hK K)|((with_reducible (first|apply oG|apply oH));iterate 3 exact rfl)|((with_reducible apply oI);(iterate 2 exact rfl);intro K hK)|(with_reducible (first|apply wI|apply wJ|apply wK)));try simp only [go_sem,simprocAttr])|fail|(with_reducible (first|apply oC|apply oJ|exact oK|apply wA|apply wB|apply wC hX hC|apply wD hX hC|apply wE hX hC af|apply wF hX hC af|apply wG|apply wH|apply And.intro))|((with_reducible refine oD ?_ ?_);first|fail|kernel_rfl)|((with_reducible (first|apply oE|apply oF));(iterate 3 exact rfl);all_goals (intro h;first|(exact absurd h (by decide))|((try simp only [go_sem,simprocAttr] at h);(try with_reducible intro K hK);simp only [go_sem,simprocAttr])))|((first|((with_reducible apply wL);exact rfl)|((with_reducible apply wM);exact rfl));all_goals (try ((with_reducible intro h);first|(exact absurd h (by decide))|(try simp only [go_sem,simprocAttr] at h))))|omega|((first|fail);try simp only [go_sem,simprocAttr])|(intro h))
 exact h.symm
theorem kD {m:List (Nat × AObj)} (hR:bz m) (f:Nat) (caps:List AV) (g:It→Bool) (ps:List It) (hf:∀p∈ps,Spec Tryz.prog f (Args (eT p::caps)) m (eB (g p)) m) (hl:ps.length≤9223372036854775807):
 Spec Tryz.prog 165 (Args [.d (sT ps), .fn f [] caps]) m (eN (bU g ps)) m:=by
 (refine Spec.intro (C:=T.cfg [] []) (rs:= [.t 4]) (T.aq _ _) Tryz.func165 rfl rfl Tryz.ntmps165 Tryz.results165 (fun p hp=>⟨(bz.low hR p hp).1,bz.nest hR p hp⟩) (fun p hp=>⟨(bz.low hR p hp).2,bz.nest hR p hp⟩) (by kernel_rfl) ?_;intro X hX hP hC aN aO vals hA;refine ⟨_,by simp,hA, ?_⟩;have af:X.P.follows .mixedOrders=true:=(by rw [hP];exact T.mixed);clear aN aO)
 repeat' (first|fail|((first|((with_reducible (first|apply oA|apply oB));exact rfl;intro K hK)|(refine hK _ ?_;clear hK K)|((with_reducible (first|apply oG|apply oH));iterate 3 exact rfl)|((with_reducible apply oI);(iterate 2 exact rfl);intro K hK)|(with_reducible (first|apply wI|apply wJ|apply wK)));try simp only [go_sem,simprocAttr])|fail|(with_reducible (first|apply oC|apply oJ|exact oK|apply wA|apply wB|apply wC hX hC|apply wD hX hC|apply wE hX hC af|apply wF hX hC af|apply wG|apply wH|apply And.intro))|((with_reducible refine oD ?_ ?_);first|fail|kernel_rfl)|((with_reducible (first|apply oE|apply oF));(iterate 3 exact rfl);all_goals (intro h;first|(exact absurd h (by decide))|((try simp only [go_sem,simprocAttr] at h);(try with_reducible intro K hK);simp only [go_sem,simprocAttr])))|((first|((with_reducible apply wL);exact rfl)|((with_reducible apply wM);exact rfl));all_goals (try ((with_reducible intro h);first|(exact absurd h (by decide))|(try simp only [go_sem,simprocAttr] at h))))|omega|((first|fail);try simp only [go_sem,simprocAttr])|(intro h))
 refine ak (fun k:Nat=>k≤ps.length∧∀j,j<k→g (ps.getD j (0,0,0))=false) (fun k=>⟨[(0, .d (sT ps)),(1, .fn f [] caps),(7,eN ps.length),(8,eN k)],m⟩) (fun k=>ps.length - k) 0 (by simp) ?_ ?_
 ·(refine ⟨bN ?_,fun _ _ h=>h⟩;simp [go_sem,simprocAttr])
 rintro k ⟨hk,hg⟩
 rcases Nat.lt_or_ge k ps.length with hlt|hge
 ·have hb:decide ((k:Int)<(ps.length:Int))=true:=decide_eq_true (by omega)
  have hf':=hf (ps.getD k (0,0,0)) (aK hlt)
  repeat' (first|fail|((first|((with_reducible (first|apply oA|apply oB));exact rfl;intro K hK)|(refine hK _ ?_;clear hK K)|((with_reducible (first|apply oG|apply oH));iterate 3 exact rfl)|((with_reducible apply oI);(iterate 2 exact rfl);intro K hK)|(with_reducible (first|apply wI|apply wJ|apply wK)));try simp only [go_sem,simprocAttr,hb])|fail|(with_reducible (first|apply oC|apply oJ|exact oK|apply wA|apply wB|apply wC hX hC|apply wD hX hC|apply wE hX hC af|apply wF hX hC af|apply wG|apply wH|apply And.intro))|((with_reducible refine oD ?_ ?_);first|fail|kernel_rfl)|((with_reducible (first|apply oE|apply oF));(iterate 3 exact rfl);all_goals (intro h;first|(exact absurd h (by decide))|((try simp only [go_sem,simprocAttr,hb] at h);(try with_reducible intro K hK);simp only [go_sem,simprocAttr,hb])))|((first|((with_reducible apply wL);exact rfl)|((with_reducible apply wM);exact rfl));all_goals (try ((with_reducible intro h);first|(exact absurd h (by decide))|(try simp only [go_sem,simprocAttr,hb] at h))))|omega|((first|(first|(refine bf hX hC hP hR (hf') rfl rfl rfl ?_ ?_ rfl rfl ?_;(focus (simp only [go_sem,simprocAttr,hb];done));(focus (first|(intro p hp;exact aL (bz.nd hR) hp)|(simp [go_sem,simprocAttr,hb];done))))|(refine bf hX hC hP hR (hf') rfl rfl rfl ?_ ?_ ?_ rfl ?_;(focus (simp only [go_sem,simprocAttr,hb];done));(focus (first|(intro p hp;exact aL (bz.nd hR) hp)|(simp [go_sem,simprocAttr,hb];done)));(focus (simp [go_sem,simprocAttr,hb];done)))));try simp only [go_sem,simprocAttr,hb])|(intro h))
  ·exact (dM (by omega) hg h).symm
  ·exact fO hR
  ·refine ⟨k+1,⟨by omega,fun j hj=> ?_⟩, ?_,by omega⟩
   ·by_cases hjk:j=k
    ·subst hjk;exact h
    ·exact hg j (by omega)
   ·(refine ⟨bN ?_,fun _ _ h=>h⟩;simp [go_sem,simprocAttr,hb])
 ·have hb:decide ((k:Int)<(ps.length:Int))=false:=decide_eq_false (by omega)
  repeat' (first|fail|((first|((with_reducible (first|apply oA|apply oB));exact rfl;intro K hK)|(refine hK _ ?_;clear hK K)|((with_reducible (first|apply oG|apply oH));iterate 3 exact rfl)|((with_reducible apply oI);(iterate 2 exact rfl);intro K hK)|(with_reducible (first|apply wI|apply wJ|apply wK)));try simp only [go_sem,simprocAttr,hb])|fail|(with_reducible (first|apply oC|apply oJ|exact oK|apply wA|apply wB|apply wC hX hC|apply wD hX hC|apply wE hX hC af|apply wF hX hC af|apply wG|apply wH|apply And.intro))|((with_reducible refine oD ?_ ?_);first|fail|kernel_rfl)|((with_reducible (first|apply oE|apply oF));(iterate 3 exact rfl);all_goals (intro h;first|(exact absurd h (by decide))|((try simp only [go_sem,simprocAttr,hb] at h);(try with_reducible intro K hK);simp only [go_sem,simprocAttr,hb])))|((first|((with_reducible apply wL);exact rfl)|((with_reducible apply wM);exact rfl));all_goals (try ((with_reducible intro h);first|(exact absurd h (by decide))|(try simp only [go_sem,simprocAttr,hb] at h))))|omega|((first|(first|(refine bf hX hC hP hR (hf') rfl rfl rfl ?_ ?_ rfl rfl ?_;(focus (simp only [go_sem,simprocAttr,hb];done));(focus (first|(intro p hp;exact aL (bz.nd hR) hp)|(simp [go_sem,simprocAttr,hb];done))))|(refine bf hX hC hP hR (hf') rfl rfl rfl ?_ ?_ ?_ rfl ?_;(focus (simp only [go_sem,simprocAttr,hb];done));(focus (first|(intro p hp;exact aL (bz.nd hR) hp)|(simp [go_sem,simprocAttr,hb];done)));(focus (simp [go_sem,simprocAttr,hb];done)))));try simp only [go_sem,simprocAttr,hb])|(intro h))
  ·exact (cD (0,0,0) fun j hj=>hg j (by omega)).symm
  ·exact fO hR
theorem mH {m:List (Nat × AObj)} (hR:bz m) (f:Nat) (caps:List AV) (g:It→Bool) (ps:List It) (hf:∀p∈ps,Spec Tryz.prog f (Args (eT p::caps)) m (eB (g p)) m) (hl:ps.length≤9223372036854775807):
 Spec Tryz.prog 152 (Args [.d (sT ps), .fn f [] caps]) m (eB (ps.any g)) m:=by
 (refine Spec.intro (C:=T.cfg [] []) (rs:= [.t 4]) (T.aq _ _) Tryz.func152 rfl rfl Tryz.ntmps152 Tryz.results152 (fun p hp=>⟨(bz.low hR p hp).1,bz.nest hR p hp⟩) (fun p hp=>⟨(bz.low hR p hp).2,bz.nest hR p hp⟩) (by kernel_rfl) ?_;intro X hX hP hC aN aO vals hA;refine ⟨_,by simp,hA, ?_⟩;have af:X.P.follows .mixedOrders=true:=(by rw [hP];exact T.mixed);clear aN aO)
 repeat' (first|fail|((first|((with_reducible (first|apply oA|apply oB));exact rfl;intro K hK)|(refine hK _ ?_;clear hK K)|((with_reducible (first|apply oG|apply oH));iterate 3 exact rfl)|((with_reducible apply oI);(iterate 2 exact rfl);intro K hK)|(with_reducible (first|apply wI|apply wJ|apply wK)));try simp only [go_sem,simprocAttr])|fail|(with_reducible (first|apply oC|apply oJ|exact oK|apply wA|apply wB|apply wC hX hC|apply wD hX hC|apply wE hX hC af|apply wF hX hC af|apply wG|apply wH|apply And.intro))|((with_reducible refine oD ?_ ?_);first|fail|kernel_rfl)|((with_reducible (first|apply oE|apply oF));(iterate 3 exact rfl);all_goals (intro h;first|(exact absurd h (by decide))|((try simp only [go_sem,simprocAttr] at h);(try with_reducible intro K hK);simp only [go_sem,simprocAttr])))|((first|((with_reducible apply wL);exact rfl)|((with_reducible apply wM);exact rfl));all_goals (try ((with_reducible intro h);first|(exact absurd h (by decide))|(try simp only [go_sem,simprocAttr] at h))))|omega|((first|(first|(refine bf hX hC hP hR (kD hR f caps g ps hf hl) rfl rfl rfl ?_ ?_ rfl rfl ?_;(focus (simp only [go_sem,simprocAttr];done));(focus (first|(intro p hp;exact aL (bz.nd hR) hp)|(simp [go_sem,simprocAttr];done))))|(refine bf hX hC hP hR (kD hR f caps g ps hf hl) rfl rfl rfl ?_ ?_ ?_ rfl ?_;(focus (simp only [go_sem,simprocAttr];done));(focus (first|(intro p hp;exact aL (bz.nd hR) hp)|(simp [go_sem,simprocAttr];done)));(focus (simp [go_sem,simprocAttr];done)))));try simp only [go_sem,simprocAttr])|(intro h))
 ·exact hM g ps
 ·exact fO hR
theorem iE (n:Int) (h0:0<n) (hl:n≤1000000):Spec Tryz.prog 154 (Args [.nil 96,eN n]) [] (.ref 10000) [(10000, .own 96 3 [])]:=by
 (refine Spec.fM (C:=T.cfg [] []) (rs:= [.t 4]) [(10000,25)] (T.aq _ _) Tryz.func154 rfl rfl Tryz.ntmps154 Tryz.results154 (by simp [AObj.isNest]) (by simp [AObj.isNest]) (by first|(simp [look];done)|(simp [asN];done)|(intro l hl;simp only [asN];repeat (rw [if_neg (fun e=>by subst e;simp [look] at hl)]))) (by first|(simp [look];done)|(simp [asN];done)|(intro l hl;simp only [asN];repeat (rw [if_neg (fun e=>by subst e;simp [look] at hl)]))) (by kernel_rfl) ?_;intro X hX hP hC aN aO vals hA;refine ⟨_,by simp,hA, ?_⟩;have af:X.P.follows .mixedOrders=true:=(by rw [hP];exact T.mixed);clear aN aO)
 repeat' (first|fail|((first|((with_reducible (first|apply oA|apply oB));exact rfl;intro K hK)|(refine hK _ ?_;clear hK K)|((with_reducible (first|apply oG|apply oH));iterate 3 exact rfl)|((with_reducible apply oI);(iterate 2 exact rfl);intro K hK)|(with_reducible (first|apply wI|apply wJ|apply wK)));try simp only [go_sem,simprocAttr])|fail|(with_reducible (first|apply oC|apply oJ|exact oK|apply wA|apply wB|apply wC hX hC|apply wD hX hC|apply wE hX hC af|apply wF hX hC af|apply wG|apply wH|apply And.intro))|((with_reducible refine oD ?_ ?_);first|fail|kernel_rfl)|((with_reducible (first|apply oE|apply oF));(iterate 3 exact rfl);all_goals (intro h;first|(exact absurd h (by decide))|((try simp only [go_sem,simprocAttr] at h);(try with_reducible intro K hK);simp only [go_sem,simprocAttr])))|((first|((with_reducible apply wL);exact rfl)|((with_reducible apply wM);exact rfl));all_goals (try ((with_reducible intro h);first|(exact absurd h (by decide))|(try simp only [go_sem,simprocAttr] at h))))|omega|((first|fail);try simp only [go_sem,simprocAttr])|(intro h))
def vT (ls:List (List It)):List (List D):=ls.map fun l=> [sT l]
theorem vT_length {ls:List (List It)} :(vT ls).length=ls.length:=by simp [vT]
theorem nG {ls:List (List It)} {k:Nat} (h:k<ls.length) (d:List D):(vT ls).getD k d= [sT (ls.getD k [])]:=by
 simp [vT,List.getD_eq_getElem?_getD,List.getElem?_eq_getElem h]
attribute [go_sem] vT_length
theorem rJ {α:Type} {ls:List (List α)} {k:Nat} (h:k<ls.length):(ls.take (k+1)).flatten=(ls.take k).flatten++ls.getD k []:=by
 rw [List.take_add_one,List.flatten_append,List.getElem?_eq_getElem h,List.getD_eq_getElem?_getD,List.getElem?_eq_getElem h]
 simp
theorem nH {α:Type} {ls:List (List α)} {k:Nat} :(ls.take k).flatten.length≤ls.flatten.length:=by
 have:=congrArg (fun x=>x.flatten.length) (List.take_append_drop k ls)
 simp only [List.flatten_append,List.length_append] at this
 omega
theorem uO (ls:List (List It)) (hn:ls.length≤1000) (h0:0<ls.flatten.length) (hl:ls.flatten.length≤1000000):Spec Tryz.prog 139 (Args [.d (.sl 1 (vT ls))]) [] (.d (sT ls.flatten)) []:=by
 (refine Spec.intro (C:=T.cfg [] []) (rs:= [.t 2]) (T.aq _ _) Tryz.func139 rfl rfl Tryz.ntmps139 Tryz.results139 (by simp [AObj.isNest]) (by simp [AObj.isNest]) (by kernel_rfl) ?_;intro X hX hP hC aN aO vals hA;refine ⟨_,by simp,hA, ?_⟩;have af:X.P.follows .mixedOrders=true:=(by rw [hP];exact T.mixed);clear aN aO)
 repeat' (first|fail|((first|((with_reducible (first|apply oA|apply oB));exact rfl;intro K hK)|(refine hK _ ?_;clear hK K)|((with_reducible (first|apply oG|apply oH));iterate 3 exact rfl)|((with_reducible apply oI);(iterate 2 exact rfl);intro K hK)|(with_reducible (first|apply wI|apply wJ|apply wK)));try simp only [go_sem,simprocAttr])|fail|(with_reducible (first|apply oC|apply oJ|exact oK|apply wA|apply wB|apply wC hX hC|apply wD hX hC|apply wE hX hC af|apply wF hX hC af|apply wG|apply wH|apply And.intro))|((with_reducible refine oD ?_ ?_);first|fail|kernel_rfl)|((with_reducible (first|apply oE|apply oF));(iterate 3 exact rfl);all_goals (intro h;first|(exact absurd h (by decide))|((try simp only [go_sem,simprocAttr] at h);(try with_reducible intro K hK);simp only [go_sem,simprocAttr])))|((first|((with_reducible apply wL);exact rfl)|((with_reducible apply wM);exact rfl));all_goals (try ((with_reducible intro h);first|(exact absurd h (by decide))|(try simp only [go_sem,simprocAttr] at h))))|omega|((first|(refine az hX hC hP [(10000,33)] (iE (ls.flatten.length:Int) (by omega) (by omega)) rfl rfl rfl ?_ ?_ ?_ ?_ ?_ ?_ ?_ ?_ ?_ ?_ ?_ ?_ ?_ ?_;(focus (simp only [go_sem,simprocAttr];done));(iterate 12 (focus (simp [go_sem,simprocAttr];done)));simp only [go_sem,simprocAttr,List.map_cons,List.map_nil]));try simp only [go_sem,simprocAttr])|(intro h))
 refine ak (fun k:Nat=>k≤ls.length) (fun k=>⟨[(0, .d (.sl 1 (vT ls))),(9, .d (.sl 1 (vT ls))),(10,eN ls.length),(11,eN k),(3,eN ((ls.take k).flatten.length))], []⟩) (fun k=>ls.length - k) 0 (by omega) ?_ ?_
 ·(refine Le.of ?_ ?_<;>simp [go_sem,simprocAttr])
 ·rintro k hk
  rcases Nat.lt_or_ge k ls.length with hlt|hge
  ·have hb:decide ((k:Int)<(ls.length:Int))=true:=decide_eq_true (by omega)
   have hv:=nG hlt
   have hf:=rJ hlt
   have JS:=nH (ls:=ls) (k:=k)
   have FD:=nH (ls:=ls) (k:=k+1)
   rw [hf,List.length_append] at FD
   have hneg:decide (((ls.take k).flatten.length:Int)+((ls.getD k []).length:Int)<0)=false:=decide_eq_false (by omega)
   repeat' (first|fail|((first|((with_reducible (first|apply oA|apply oB));exact rfl;intro K hK)|(refine hK _ ?_;clear hK K)|((with_reducible (first|apply oG|apply oH));iterate 3 exact rfl)|((with_reducible apply oI);(iterate 2 exact rfl);intro K hK)|(with_reducible (first|apply wI|apply wJ|apply wK)));try simp only [go_sem,simprocAttr,hb,hv,hneg])|fail|(with_reducible (first|apply oC|apply oJ|exact oK|apply wA|apply wB|apply wC hX hC|apply wD hX hC|apply wE hX hC af|apply wF hX hC af|apply wG|apply wH|apply And.intro))|((with_reducible refine oD ?_ ?_);first|fail|kernel_rfl)|((with_reducible (first|apply oE|apply oF));(iterate 3 exact rfl);all_goals (intro h;first|(exact absurd h (by decide))|((try simp only [go_sem,simprocAttr,hb,hv,hneg] at h);(try with_reducible intro K hK);simp only [go_sem,simprocAttr,hb,hv,hneg])))|((first|((with_reducible apply wL);exact rfl)|((with_reducible apply wM);exact rfl));all_goals (try ((with_reducible intro h);first|(exact absurd h (by decide))|(try simp only [go_sem,simprocAttr,hb,hv,hneg] at h))))|omega|((first|(refine az hX hC hP [(10000,33)] (iE (ls.flatten.length:Int) (by omega) (by omega)) rfl rfl rfl ?_ ?_ ?_ ?_ ?_ ?_ ?_ ?_ ?_ ?_ ?_ ?_ ?_ ?_;(focus (simp only [go_sem,simprocAttr,hb,hv,hneg];done));(iterate 12 (focus (simp [go_sem,simprocAttr,hb,hv,hneg];done)));simp only [go_sem,simprocAttr,hb,hv,hneg,List.map_cons,List.map_nil]));try simp only [go_sem,simprocAttr,hb,hv,hneg])|(intro h))
   refine ⟨k+1,by omega, ?_,by omega⟩
   simp only [hf]
   refine Le.of ?_ ?_<;>simp [go_sem,simprocAttr,hb,hv,hneg]
  ·have hb:decide ((k:Int)<(ls.length:Int))=false:=decide_eq_false (by omega)
   have ht:ls.take k=ls:=List.take_of_length_le (by omega)
   repeat' (first|fail|((first|((with_reducible (first|apply oA|apply oB));exact rfl;intro K hK)|(refine hK _ ?_;clear hK K)|((with_reducible (first|apply oG|apply oH));iterate 3 exact rfl)|((with_reducible apply oI);(iterate 2 exact rfl);intro K hK)|(with_reducible (first|apply wI|apply wJ|apply wK)));try simp only [go_sem,simprocAttr,hb,ht])|fail|(with_reducible (first|apply oC|apply oJ|exact oK|apply wA|apply wB|apply wC hX hC|apply wD hX hC|apply wE hX hC af|apply wF hX hC af|apply wG|apply wH|apply And.intro))|((with_reducible refine oD ?_ ?_);first|fail|kernel_rfl)|((with_reducible (first|apply oE|apply oF));(iterate 3 exact rfl);all_goals (intro h;first|(exact absurd h (by decide))|((try simp only [go_sem,simprocAttr,hb,ht] at h);(try with_reducible intro K hK);simp only [go_sem,simprocAttr,hb,ht])))|((first|((with_reducible apply wL);exact rfl)|((with_reducible apply wM);exact rfl));all_goals (try ((with_reducible intro h);first|(exact absurd h (by decide))|(try simp only [go_sem,simprocAttr,hb,ht] at h))))|omega|((first|(refine az hX hC hP [(10000,33)] (iE (ls.flatten.length:Int) (by omega) (by omega)) rfl rfl rfl ?_ ?_ ?_ ?_ ?_ ?_ ?_ ?_ ?_ ?_ ?_ ?_ ?_ ?_;(focus (simp only [go_sem,simprocAttr,hb,ht];done));(iterate 12 (focus (simp [go_sem,simprocAttr,hb,ht];done)));simp only [go_sem,simprocAttr,hb,ht,List.map_cons,List.map_nil]));try simp only [go_sem,simprocAttr,hb,ht])|(intro h))
   refine ak (fun k:Nat=>k≤ls.length) (fun k=>⟨[(25, .d (.sl 1 (vT ls))),(26,eN ls.length),(27,eN k),(6, .ref 33)], [(33, .own 96 3 ((ls.take k).flatten.map rT))]⟩) (fun k=>ls.length - k) 0 (by omega) ?_ ?_
   ·(refine Le.of ?_ ?_<;>simp [go_sem,simprocAttr,hb,ht])
   ·clear hb ht hk hge
    rintro k hk
    rcases Nat.lt_or_ge k ls.length with hlt|hge
    ·have hb:decide ((k:Int)<(ls.length:Int))=true:=decide_eq_true (by omega)
     have hv:=nG hlt
     have hf:=rJ hlt
     have JS:=nH (ls:=ls) (k:=k)
     have FD:=nH (ls:=ls) (k:=k+1)
     rw [hf,List.length_append] at FD
     repeat' (first|fail|((first|((with_reducible (first|apply oA|apply oB));exact rfl;intro K hK)|(refine hK _ ?_;clear hK K)|((with_reducible (first|apply oG|apply oH));iterate 3 exact rfl)|((with_reducible apply oI);(iterate 2 exact rfl);intro K hK)|(with_reducible (first|apply wI|apply wJ|apply wK)));try simp only [go_sem,simprocAttr,hb,hv])|fail|(with_reducible (first|apply oC|apply oJ|exact oK|apply wA|apply wB|apply wC hX hC|apply wD hX hC|apply wE hX hC af|apply wF hX hC af|apply wG|apply wH|apply And.intro))|((with_reducible refine oD ?_ ?_);first|fail|kernel_rfl)|((with_reducible (first|apply oE|apply oF));(iterate 3 exact rfl);all_goals (intro h;first|(exact absurd h (by decide))|((try simp only [go_sem,simprocAttr,hb,hv] at h);(try with_reducible intro K hK);simp only [go_sem,simprocAttr,hb,hv])))|((first|((with_reducible apply wL);exact rfl)|((with_reducible apply wM);exact rfl));all_goals (try ((with_reducible intro h);first|(exact absurd h (by decide))|(try simp only [go_sem,simprocAttr,hb,hv] at h))))|omega|((first|(refine az hX hC hP [(10000,33)] (iE (ls.flatten.length:Int) (by omega) (by omega)) rfl rfl rfl ?_ ?_ ?_ ?_ ?_ ?_ ?_ ?_ ?_ ?_ ?_ ?_ ?_ ?_;(focus (simp only [go_sem,simprocAttr,hb,hv];done));(iterate 12 (focus (simp [go_sem,simprocAttr,hb,hv];done)));simp only [go_sem,simprocAttr,hb,hv,List.map_cons,List.map_nil]));try simp only [go_sem,simprocAttr,hb,hv])|(intro h))
     refine ⟨k+1,by omega, ?_,by omega⟩
     simp only [hf]
     refine Le.of ?_ ?_<;>simp [go_sem,simprocAttr,hb,hv]
    ·have hb:decide ((k:Int)<(ls.length:Int))=false:=decide_eq_false (by omega)
     have ht:ls.take k=ls:=List.take_of_length_le (by omega)
     repeat' (first|fail|((first|((with_reducible (first|apply oA|apply oB));exact rfl;intro K hK)|(refine hK _ ?_;clear hK K)|((with_reducible (first|apply oG|apply oH));iterate 3 exact rfl)|((with_reducible apply oI);(iterate 2 exact rfl);intro K hK)|(with_reducible (first|apply wI|apply wJ|apply wK)));try simp only [go_sem,simprocAttr,hb,ht])|fail|(with_reducible (first|apply oC|apply oJ|exact oK|apply wA|apply wB|apply wC hX hC|apply wD hX hC|apply wE hX hC af|apply wF hX hC af|apply wG|apply wH|apply And.intro))|((with_reducible refine oD ?_ ?_);first|fail|kernel_rfl)|((with_reducible (first|apply oE|apply oF));(iterate 3 exact rfl);all_goals (intro h;first|(exact absurd h (by decide))|((try simp only [go_sem,simprocAttr,hb,ht] at h);(try with_reducible intro K hK);simp only [go_sem,simprocAttr,hb,ht])))|((first|((with_reducible apply wL);exact rfl)|((with_reducible apply wM);exact rfl));all_goals (try ((with_reducible intro h);first|(exact absurd h (by decide))|(try simp only [go_sem,simprocAttr,hb,ht] at h))))|omega|((first|(refine az hX hC hP [(10000,33)] (iE (ls.flatten.length:Int) (by omega) (by omega)) rfl rfl rfl ?_ ?_ ?_ ?_ ?_ ?_ ?_ ?_ ?_ ?_ ?_ ?_ ?_ ?_;(focus (simp only [go_sem,simprocAttr,hb,ht];done));(iterate 12 (focus (simp [go_sem,simprocAttr,hb,ht];done)));simp only [go_sem,simprocAttr,hb,ht,List.map_cons,List.map_nil]));try simp only [go_sem,simprocAttr,hb,ht])|(intro h))
end Go.Ab
end
section
namespace Go.Ab
open Go.Proofs
attribute [local congr] ACall.congr
set_option maxRecDepth 10000
set_option maxHeartbeats 1000000
structure Fr where
 row:List It
 pl:List Int
def fV (g:Gr) (f:Fr):D:= .pt [sT f.row,vw g,sI f.pl]
def cI (row:List It) (x:Int):Nat→Int × Int × Int
 |0=>(-1,0,0)
 |k+1=>if (row.getD k (0,0,0)).2.2=x then (if (cI row x k).1= -1 then (k:Int) else (cI row x k).1,(k:Int)+1,(cI row x k).2.2+1) else cI row x k
def aT (row:List It) (x:Int):Int × Int × Int:=cI row x row.length
theorem iF {row:List It} {x:Int} {k:Nat} :cI row x (k+1)=if (row.getD k (0,0,0)).2.2=x then (if (cI row x k).1= -1 then (k:Int) else (cI row x k).1,(k:Int)+1,(cI row x k).2.2+1) else cI row x k:=rfl
theorem cU {row:List It} {x:Int} :∀k:Nat,(cI row x k=(-1,0,0)∧∀j,j<k→(row.getD j (0,0,0)).2.2≠x)∨
 ∃a b c:Nat,cI row x k=((a:Int),(b:Int),(c:Int))∧a<b∧b≤k∧0<c∧c≤k∧(row.getD a (0,0,0)).2.2=x∧(row.getD (b - 1) (0,0,0)).2.2=x∧(∀j,j<a→(row.getD j (0,0,0)).2.2≠x)∧(∀j,b≤j→j<k→(row.getD j (0,0,0)).2.2≠x)
 |0=> .inl ⟨rfl,fun j hj=>by omega⟩
 |k+1=>by
  rw [iF]
  by_cases hx:(row.getD k (0,0,0)).2.2=x
  ·rw [if_pos hx]
   right
   rcases cU (row:=row) (x:=x) k with ⟨h1,h2⟩|⟨a,b,c,h1,h2,h3,h4,h5,h6,h7,h8,h9⟩
   ·refine ⟨k,k+1,1,by rw [h1];rfl,by omega,by omega,by omega,by omega,hx,hx,h2,fun j h1 h2=>by omega⟩
   ·refine ⟨a,k+1,c+1,by rw [h1];simp only [Prod.mk.injEq];exact ⟨by rw [if_neg (by omega)],by omega,by omega⟩,by omega,by omega,by omega,by omega,h6,hx,h8,fun j h1 h2=>by omega⟩
  ·rw [if_neg hx]
   rcases cU (row:=row) (x:=x) k with ⟨h1,h2⟩|⟨a,b,c,h1,h2,h3,h4,h5,h6,h7,h8,h9⟩
   ·refine .inl ⟨h1,fun j hj=> ?_⟩
    by_cases hjk:j=k
    ·subst hjk;exact hx
    ·exact h2 j (by omega)
   ·refine .inr ⟨a,b,c,h1,h2,by omega,h4,by omega,h6,h7,h8,fun j Oc PI=> ?_⟩
    by_cases hjk:j=k
    ·subst hjk;exact hx
    ·exact h9 j Oc (by omega)
theorem eC (ds:List D) (row:List It) (x:Int) (hl:row.length≤1000000):Spec Tryz.prog 113 (Args [.d (.pt (sT row::ds)),eN x]) [] (.tup [eN (aT row x).1,eN (aT row x).2.1,eN (aT row x).2.2]) []:=by
 (refine Spec.intro (C:=T.cfg [] []) (rs:= [.t 4, .t 5, .t 6]) (T.aq _ _) Tryz.func113 rfl rfl Tryz.ntmps113 Tryz.results113 (by simp [AObj.isNest]) (by simp [AObj.isNest]) (by kernel_rfl) ?_;intro X hX hP hC aN aO vals hA;refine ⟨_,by simp,hA, ?_⟩;have af:X.P.follows .mixedOrders=true:=(by rw [hP];exact T.mixed);clear aN aO)
 repeat' (first|fail|((first|((with_reducible (first|apply oA|apply oB));exact rfl;intro K hK)|(refine hK _ ?_;clear hK K)|((with_reducible (first|apply oG|apply oH));iterate 3 exact rfl)|((with_reducible apply oI);(iterate 2 exact rfl);intro K hK)|(with_reducible (first|apply wI|apply wJ|apply wK)));try simp only [go_sem,simprocAttr,aT])|fail|(with_reducible (first|apply oC|apply oJ|exact oK|apply wA|apply wB|apply wC hX hC|apply wD hX hC|apply wE hX hC af|apply wF hX hC af|apply wG|apply wH|apply And.intro))|((with_reducible refine oD ?_ ?_);first|fail|kernel_rfl)|((with_reducible (first|apply oE|apply oF));(iterate 3 exact rfl);all_goals (intro h;first|(exact absurd h (by decide))|((try simp only [go_sem,simprocAttr,aT] at h);(try with_reducible intro K hK);simp only [go_sem,simprocAttr,aT])))|((first|((with_reducible apply wL);exact rfl)|((with_reducible apply wM);exact rfl));all_goals (try ((with_reducible intro h);first|(exact absurd h (by decide))|(try simp only [go_sem,simprocAttr,aT] at h))))|omega|((first|fail);try simp only [go_sem,simprocAttr,aT])|(intro h))
 refine ak (fun k:Nat=>k≤row.length) (fun k=>⟨[(1,eN x),(12, .d (sT row)),(13,eN row.length),(14,eN k),(4,eN (cI row x k).1),(5,eN (cI row x k).2.1),(6,eN (cI row x k).2.2)], []⟩) (fun k=>row.length - k) 0 (by simp) ?_ ?_
 ·refine Le.of ?_ ?_<;>simp [go_sem,simprocAttr,aT,cI]
 rintro k hk
 rcases Nat.lt_or_ge k row.length with hlt|hge
 ·have hb:decide ((k:Int)<(row.length:Int))=true:=decide_eq_true (by omega)
  have hok:=cU (row:=row) (x:=x) k
  have hc: -1≤(cI row x k).2.2∧(cI row x k).2.2≤k:=by
   rcases hok with ⟨h1,_⟩|⟨a,b,c,h1,_,_,_,_,_⟩<;>rw [h1]<;>simp only<;>omega
  have dQ:=iF (row:=row) (x:=x) (k:=k)
  repeat' (first|fail|((first|((with_reducible (first|apply oA|apply oB));exact rfl;intro K hK)|(refine hK _ ?_;clear hK K)|((with_reducible (first|apply oG|apply oH));iterate 3 exact rfl)|((with_reducible apply oI);(iterate 2 exact rfl);intro K hK)|(with_reducible (first|apply wI|apply wJ|apply wK)));try simp only [go_sem,simprocAttr,hb])|fail|(with_reducible (first|apply oC|apply oJ|exact oK|apply wA|apply wB|apply wC hX hC|apply wD hX hC|apply wE hX hC af|apply wF hX hC af|apply wG|apply wH|apply And.intro))|((with_reducible refine oD ?_ ?_);first|fail|kernel_rfl)|((with_reducible (first|apply oE|apply oF));(iterate 3 exact rfl);all_goals (intro h;first|(exact absurd h (by decide))|((try simp only [go_sem,simprocAttr,hb] at h);(try with_reducible intro K hK);simp only [go_sem,simprocAttr,hb])))|((first|((with_reducible apply wL);exact rfl)|((with_reducible apply wM);exact rfl));all_goals (try ((with_reducible intro h);first|(exact absurd h (by decide))|(try simp only [go_sem,simprocAttr,hb] at h))))|omega|((first|fail);try simp only [go_sem,simprocAttr,hb])|(intro h))
  all_goals (first|rw [if_neg (by assumption)] at dQ|(rw [if_pos (by assumption)] at dQ;first|rw [if_pos (by assumption)] at dQ|rw [if_neg (by assumption)] at dQ))
  all_goals (refine ⟨k+1,by omega, ?_,by omega⟩;refine Le.of ?_ ?_<;>simp [go_sem,simprocAttr,hb,dQ])
 ·have hb:decide ((k:Int)<(row.length:Int))=false:=decide_eq_false (by omega)
  obtain rfl:k=row.length:=by omega
  repeat' (first|fail|((first|((with_reducible (first|apply oA|apply oB));exact rfl;intro K hK)|(refine hK _ ?_;clear hK K)|((with_reducible (first|apply oG|apply oH));iterate 3 exact rfl)|((with_reducible apply oI);(iterate 2 exact rfl);intro K hK)|(with_reducible (first|apply wI|apply wJ|apply wK)));try simp only [go_sem,simprocAttr,hb,aT])|fail|(with_reducible (first|apply oC|apply oJ|exact oK|apply wA|apply wB|apply wC hX hC|apply wD hX hC|apply wE hX hC af|apply wF hX hC af|apply wG|apply wH|apply And.intro))|((with_reducible refine oD ?_ ?_);first|fail|kernel_rfl)|((with_reducible (first|apply oE|apply oF));(iterate 3 exact rfl);all_goals (intro h;first|(exact absurd h (by decide))|((try simp only [go_sem,simprocAttr,hb,aT] at h);(try with_reducible intro K hK);simp only [go_sem,simprocAttr,hb,aT])))|((first|((with_reducible apply wL);exact rfl)|((with_reducible apply wM);exact rfl));all_goals (try ((with_reducible intro h);first|(exact absurd h (by decide))|(try simp only [go_sem,simprocAttr,hb,aT] at h))))|omega|((first|fail);try simp only [go_sem,simprocAttr,hb,aT])|(intro h))
def kg (x:Int) (t:It):Bool:=decide (t.2.2≠x)&&decide (t.2.2≠ -1)
def pG (row:List It) (x:Int) (a b:Nat):Bool:= !((row.take b).drop a).any (kg x)
theorem Aa (x:Int):bz [(10000, .rob [eN x])]:=⟨by simp [AObj.ro],by simp [nodupM,look],by simp,by simp [AObj.ids,AV.ids,AV.idss,eN]⟩
theorem xZ (x:Int) (t:It):Spec Tryz.prog 153 (Args [eT t, .ptr 10000 0]) [(10000, .rob [eN x])] (eB (kg x t)) [(10000, .rob [eN x])]:=by
 (refine Spec.intro (C:=T.cfg [] []) (rs:= [.t 3]) (T.aq _ _) Tryz.func153 rfl rfl Tryz.ntmps153 Tryz.results153 (fun p hp=>⟨(bz.low (Aa x) p hp).1,bz.nest (Aa x) p hp⟩) (fun p hp=>⟨(bz.low (Aa x) p hp).2,bz.nest (Aa x) p hp⟩) (by kernel_rfl) ?_;intro X hX hP hC aN aO vals hA;refine ⟨_,by simp,hA, ?_⟩;have af:X.P.follows .mixedOrders=true:=(by rw [hP];exact T.mixed);clear aN aO)
 repeat' (first|fail|((first|((with_reducible (first|apply oA|apply oB));exact rfl;intro K hK)|(refine hK _ ?_;clear hK K)|((with_reducible (first|apply oG|apply oH));iterate 3 exact rfl)|((with_reducible apply oI);(iterate 2 exact rfl);intro K hK)|(with_reducible (first|apply wI|apply wJ|apply wK)));try simp only [go_sem,simprocAttr])|fail|(with_reducible (first|apply oC|apply oJ|exact oK|apply wA|apply wB|apply wC hX hC|apply wD hX hC|apply wE hX hC af|apply wF hX hC af|apply wG|apply wH|apply And.intro))|((with_reducible refine oD ?_ ?_);first|fail|kernel_rfl)|((with_reducible (first|apply oE|apply oF));(iterate 3 exact rfl);all_goals (intro h;first|(exact absurd h (by decide))|((try simp only [go_sem,simprocAttr] at h);(try with_reducible intro K hK);simp only [go_sem,simprocAttr])))|((first|((with_reducible apply wL);exact rfl)|((with_reducible apply wM);exact rfl));all_goals (try ((with_reducible intro h);first|(exact absurd h (by decide))|(try simp only [go_sem,simprocAttr] at h))))|omega|((first|fail);try simp only [go_sem,simprocAttr])|(intro h))
 all_goals (simp only [kg];first|exact fO (Aa x)|simp [*])
theorem gq (ds:List D) (row:List It) (x:Int) (a b:Nat) (hab:a≤b) (hb:b≤row.length) (hl:row.length≤1000000):Spec Tryz.prog 138 (Args [.d (.pt (sT row::ds)),eN x,eN a,eN b]) [] (eB (pG row x a b)) []:=by
 have AR:sT ((row.take b).drop a)= .sl 3 (((row.map rT).take b).drop a):=by simp [sT,List.map_take,List.map_drop]
 have kJ:((row.take b).drop a).length≤9223372036854775807:=by simp;omega
 (refine Spec.intro (C:=T.cfg [] []) (rs:= [.t 8]) (T.aq _ _) Tryz.func138 rfl rfl Tryz.ntmps138 Tryz.results138 (by simp [AObj.isNest]) (by simp [AObj.isNest]) (by kernel_rfl) ?_;intro X hX hP hC aN aO vals hA;refine ⟨_,by simp,hA, ?_⟩;have af:X.P.follows .mixedOrders=true:=(by rw [hP];exact T.mixed);clear aN aO)
 repeat' (first|fail|((first|((with_reducible (first|apply oA|apply oB));exact rfl;intro K hK)|(refine hK _ ?_;clear hK K)|((with_reducible (first|apply oG|apply oH));iterate 3 exact rfl)|((with_reducible apply oI);(iterate 2 exact rfl);intro K hK)|(with_reducible (first|apply wI|apply wJ|apply wK)));try simp only [go_sem,simprocAttr,List.map_take,List.map_drop])|fail|(with_reducible (first|apply oC|apply oJ|exact oK|apply wA|apply wB|apply wC hX hC|apply wD hX hC|apply wE hX hC af|apply wF hX hC af|apply wG|apply wH|apply And.intro))|((with_reducible refine oD ?_ ?_);first|fail|kernel_rfl)|((with_reducible (first|apply oE|apply oF));(iterate 3 exact rfl);all_goals (intro h;first|(exact absurd h (by decide))|((try simp only [go_sem,simprocAttr,List.map_take,List.map_drop] at h);(try with_reducible intro K hK);simp only [go_sem,simprocAttr,List.map_take,List.map_drop])))|((first|((with_reducible apply wL);exact rfl)|((with_reducible apply wM);exact rfl));all_goals (try ((with_reducible intro h);first|(exact absurd h (by decide))|(try simp only [go_sem,simprocAttr,List.map_take,List.map_drop] at h))))|omega|((first|(refine aR hX hC hP [(10000,5)] (mH (Aa x) _ [.ptr 10000 0] (kg x) ((row.take b).drop a) (fun t _=>xZ x t) kJ) rfl rfl rfl ?_ ?_ ?_ ?_ ?_ ?_ rfl rfl ?_ ?_;(focus (simp only [go_sem,simprocAttr,List.map_take,List.map_drop];done));(iterate 6 (focus (simp [go_sem,simprocAttr,List.map_take,List.map_drop];done)));simp only [go_sem,simprocAttr,List.map_take,List.map_drop,List.map_cons,List.map_nil]));try simp only [go_sem,simprocAttr,List.map_take,List.map_drop])|(intro h))
 rfl
end Go.Ab
end
section
namespace Go.Ab
open Go.Proofs
attribute [local congr] ACall.congr
set_option maxRecDepth 10000
set_option maxHeartbeats 2000000
def gr (g:Gr) (f:Fr) (x:Int):Bool:=
 if x<0∨g.n≤x∨x∈f.pl then false else
 decide ((aT f.row x).2.2=((bp (·.2) g x).length:Int))&&(decide ((bp (·.2) g x).length=0)||pG f.row x (aT f.row x).1.toNat (aT f.row x).2.1.toNat)
theorem x3 {f:Edge→Int} {g:Gr} {x:Int} :(bp f g x).length≤g.es.length:=by
 unfold bp
 split
 ·exact jI
 ·simp
theorem mI (g:Gr) (hm:aU g=true) (f:Fr) (x:Int) (hr:f.row.length≤1000000) (fU:f.pl.length≤1000000):Spec Tryz.prog 112 (Args [.d (fV g f),eN x]) [] (eB (gr g f x)) []:=by
 have hp:f.pl.length≤9223372036854775807:=by omega
 have hn:=aZ hm
 unfold fV
 by_cases hx:x<0∨g.n≤x∨x∈f.pl
 ·have hR:gr g f x=false:=if_pos hx
  (refine Spec.intro (C:=T.cfg [] []) (rs:= [.t 4]) (T.aq _ _) Tryz.func112 rfl rfl Tryz.ntmps112 Tryz.results112 (by simp [AObj.isNest]) (by simp [AObj.isNest]) (by kernel_rfl) ?_;intro X hX hP hC aN aO vals hA;refine ⟨_,by simp,hA, ?_⟩;have af:X.P.follows .mixedOrders=true:=(by rw [hP];exact T.mixed);clear aN aO)
  by_cases h1:x<0
  ·have an:decide (x<0)=true:=decide_eq_true h1
   repeat' (first|fail|((first|((with_reducible (first|apply oA|apply oB));exact rfl;intro K hK)|(refine hK _ ?_;clear hK K)|((with_reducible (first|apply oG|apply oH));iterate 3 exact rfl)|((with_reducible apply oI);(iterate 2 exact rfl);intro K hK)|(with_reducible (first|apply wI|apply wJ|apply wK)));try simp only [go_sem,simprocAttr,ah,hR,an])|fail|(with_reducible (first|apply oC|apply oJ|exact oK|apply wA|apply wB|apply wC hX hC|apply wD hX hC|apply wE hX hC af|apply wF hX hC af|apply wG|apply wH|apply And.intro))|((with_reducible refine oD ?_ ?_);first|fail|kernel_rfl)|((with_reducible (first|apply oE|apply oF));(iterate 3 exact rfl);all_goals (intro h;first|(exact absurd h (by decide))|((try simp only [go_sem,simprocAttr,ah,hR,an] at h);(try with_reducible intro K hK);simp only [go_sem,simprocAttr,ah,hR,an])))|((first|((with_reducible apply wL);exact rfl)|((with_reducible apply wM);exact rfl));all_goals (try ((with_reducible intro h);first|(exact absurd h (by decide))|(try simp only [go_sem,simprocAttr,ah,hR,an] at h))))|omega|((first|first|refine aa hX hC hP (jJ g hm x) rfl rfl rfl (by simp only [go_sem,simprocAttr,ah,hR,an]) rfl ?_|refine aa hX hC hP (bn f.pl x hp) rfl rfl rfl (by simp only [go_sem,simprocAttr,ah,hR,an]) rfl ?_|refine aa hX hC hP (eC [vw g,sI f.pl] f.row x hr) rfl rfl rfl (by simp only [go_sem,simprocAttr,ah,hR,an]) rfl ?_|refine aa hX hC hP (gq [vw g,sI f.pl] f.row x a b hab dK hr) rfl rfl rfl (by simp only [go_sem,simprocAttr,ah,hR,an]) rfl ?_);try simp only [go_sem,simprocAttr,ah,hR,an])|(intro h))
  have an:decide (x<0)=false:=decide_eq_false h1
  by_cases h2:g.n≤x
  ·have aj:decide (g.n≤x)=true:=decide_eq_true h2
   repeat' (first|fail|((first|((with_reducible (first|apply oA|apply oB));exact rfl;intro K hK)|(refine hK _ ?_;clear hK K)|((with_reducible (first|apply oG|apply oH));iterate 3 exact rfl)|((with_reducible apply oI);(iterate 2 exact rfl);intro K hK)|(with_reducible (first|apply wI|apply wJ|apply wK)));try simp only [go_sem,simprocAttr,ah,hR,an,aj])|fail|(with_reducible (first|apply oC|apply oJ|exact oK|apply wA|apply wB|apply wC hX hC|apply wD hX hC|apply wE hX hC af|apply wF hX hC af|apply wG|apply wH|apply And.intro))|((with_reducible refine oD ?_ ?_);first|fail|kernel_rfl)|((with_reducible (first|apply oE|apply oF));(iterate 3 exact rfl);all_goals (intro h;first|(exact absurd h (by decide))|((try simp only [go_sem,simprocAttr,ah,hR,an,aj] at h);(try with_reducible intro K hK);simp only [go_sem,simprocAttr,ah,hR,an,aj])))|((first|((with_reducible apply wL);exact rfl)|((with_reducible apply wM);exact rfl));all_goals (try ((with_reducible intro h);first|(exact absurd h (by decide))|(try simp only [go_sem,simprocAttr,ah,hR,an,aj] at h))))|omega|((first|first|refine aa hX hC hP (jJ g hm x) rfl rfl rfl (by simp only [go_sem,simprocAttr,ah,hR,an,aj]) rfl ?_|refine aa hX hC hP (bn f.pl x hp) rfl rfl rfl (by simp only [go_sem,simprocAttr,ah,hR,an,aj]) rfl ?_|refine aa hX hC hP (eC [vw g,sI f.pl] f.row x hr) rfl rfl rfl (by simp only [go_sem,simprocAttr,ah,hR,an,aj]) rfl ?_|refine aa hX hC hP (gq [vw g,sI f.pl] f.row x a b hab dK hr) rfl rfl rfl (by simp only [go_sem,simprocAttr,ah,hR,an,aj]) rfl ?_);try simp only [go_sem,simprocAttr,ah,hR,an,aj])|(intro h))
  have aj:decide (g.n≤x)=false:=decide_eq_false h2
  have h3:x∈f.pl:=by rcases hx with h|h|h;exact absurd h h1;exact absurd h h2;exact h
  have bt:decide (x∈f.pl)=true:=decide_eq_true h3
  repeat' (first|fail|((first|((with_reducible (first|apply oA|apply oB));exact rfl;intro K hK)|(refine hK _ ?_;clear hK K)|((with_reducible (first|apply oG|apply oH));iterate 3 exact rfl)|((with_reducible apply oI);(iterate 2 exact rfl);intro K hK)|(with_reducible (first|apply wI|apply wJ|apply wK)));try simp only [go_sem,simprocAttr,ah,hR,an,aj,bt])|fail|(with_reducible (first|apply oC|apply oJ|exact oK|apply wA|apply wB|apply wC hX hC|apply wD hX hC|apply wE hX hC af|apply wF hX hC af|apply wG|apply wH|apply And.intro))|((with_reducible refine oD ?_ ?_);first|fail|kernel_rfl)|((with_reducible (first|apply oE|apply oF));(iterate 3 exact rfl);all_goals (intro h;first|(exact absurd h (by decide))|((try simp only [go_sem,simprocAttr,ah,hR,an,aj,bt] at h);(try with_reducible intro K hK);simp only [go_sem,simprocAttr,ah,hR,an,aj,bt])))|((first|((with_reducible apply wL);exact rfl)|((with_reducible apply wM);exact rfl));all_goals (try ((with_reducible intro h);first|(exact absurd h (by decide))|(try simp only [go_sem,simprocAttr,ah,hR,an,aj,bt] at h))))|omega|((first|first|refine aa hX hC hP (jJ g hm x) rfl rfl rfl (by simp only [go_sem,simprocAttr,ah,hR,an,aj,bt]) rfl ?_|refine aa hX hC hP (bn f.pl x hp) rfl rfl rfl (by simp only [go_sem,simprocAttr,ah,hR,an,aj,bt]) rfl ?_|refine aa hX hC hP (eC [vw g,sI f.pl] f.row x hr) rfl rfl rfl (by simp only [go_sem,simprocAttr,ah,hR,an,aj,bt]) rfl ?_|refine aa hX hC hP (gq [vw g,sI f.pl] f.row x a b hab dK hr) rfl rfl rfl (by simp only [go_sem,simprocAttr,ah,hR,an,aj,bt]) rfl ?_);try simp only [go_sem,simprocAttr,ah,hR,an,aj,bt])|(intro h))
 ·have an:decide (x<0)=false:=decide_eq_false fun h=>hx (.inl h)
  have aj:decide (g.n≤x)=false:=decide_eq_false fun h=>hx (.inr (.inl h))
  have bt:decide (x∈f.pl)=false:=decide_eq_false fun h=>hx (.inr (.inr h))
  have hR:gr g f x=(decide ((aT f.row x).2.2=((bp (·.2) g x).length:Int))&&(decide ((bp (·.2) g x).length=0)||pG f.row x (aT f.row x).1.toNat (aT f.row x).2.1.toNat)):=if_neg hx
  by_cases h4:(aT f.row x).2.2=((bp (·.2) g x).length:Int)
  ·have hb4:decide ((aT f.row x).2.2=((bp (·.2) g x).length:Int))=true:=decide_eq_true h4
   by_cases h5:(bp (·.2) g x).length=0
   ·have uP:decide (((bp (·.2) g x).length:Int)=0)=true:=decide_eq_true (by omega)
    rw [hb4,decide_eq_true h5] at hR
    (refine Spec.intro (C:=T.cfg [] []) (rs:= [.t 4]) (T.aq _ _) Tryz.func112 rfl rfl Tryz.ntmps112 Tryz.results112 (by simp [AObj.isNest]) (by simp [AObj.isNest]) (by kernel_rfl) ?_;intro X hX hP hC aN aO vals hA;refine ⟨_,by simp,hA, ?_⟩;have af:X.P.follows .mixedOrders=true:=(by rw [hP];exact T.mixed);clear aN aO)
    repeat' (first|fail|((first|((with_reducible (first|apply oA|apply oB));exact rfl;intro K hK)|(refine hK _ ?_;clear hK K)|((with_reducible (first|apply oG|apply oH));iterate 3 exact rfl)|((with_reducible apply oI);(iterate 2 exact rfl);intro K hK)|(with_reducible (first|apply wI|apply wJ|apply wK)));try simp only [go_sem,simprocAttr,ah,hR,an,aj,bt,hb4,uP])|fail|(with_reducible (first|apply oC|apply oJ|exact oK|apply wA|apply wB|apply wC hX hC|apply wD hX hC|apply wE hX hC af|apply wF hX hC af|apply wG|apply wH|apply And.intro))|((with_reducible refine oD ?_ ?_);first|fail|kernel_rfl)|((with_reducible (first|apply oE|apply oF));(iterate 3 exact rfl);all_goals (intro h;first|(exact absurd h (by decide))|((try simp only [go_sem,simprocAttr,ah,hR,an,aj,bt,hb4,uP] at h);(try with_reducible intro K hK);simp only [go_sem,simprocAttr,ah,hR,an,aj,bt,hb4,uP])))|((first|((with_reducible apply wL);exact rfl)|((with_reducible apply wM);exact rfl));all_goals (try ((with_reducible intro h);first|(exact absurd h (by decide))|(try simp only [go_sem,simprocAttr,ah,hR,an,aj,bt,hb4,uP] at h))))|omega|((first|first|refine aa hX hC hP (jJ g hm x) rfl rfl rfl (by simp only [go_sem,simprocAttr,ah,hR,an,aj,bt,hb4,uP]) rfl ?_|refine aa hX hC hP (bn f.pl x hp) rfl rfl rfl (by simp only [go_sem,simprocAttr,ah,hR,an,aj,bt,hb4,uP]) rfl ?_|refine aa hX hC hP (eC [vw g,sI f.pl] f.row x hr) rfl rfl rfl (by simp only [go_sem,simprocAttr,ah,hR,an,aj,bt,hb4,uP]) rfl ?_|refine aa hX hC hP (gq [vw g,sI f.pl] f.row x a b hab dK hr) rfl rfl rfl (by simp only [go_sem,simprocAttr,ah,hR,an,aj,bt,hb4,uP]) rfl ?_);try simp only [go_sem,simprocAttr,ah,hR,an,aj,bt,hb4,uP])|(intro h))
   ·have uP:decide (((bp (·.2) g x).length:Int)=0)=false:=decide_eq_false (by omega)
    rcases cU (row:=f.row) (x:=x) f.row.length with ⟨h6,_⟩|⟨a,b,c,h6,hab,dK,_⟩
    ·exfalso
     have:(aT f.row x).2.2=0:=by unfold aT;rw [h6]
     omega
    ·have hsp:aT f.row x=((a:Int),(b:Int),(c:Int)):=h6
     have hab:a≤b:=by omega
     rw [hb4,decide_eq_false h5,hsp] at hR
     simp only [Bool.true_and,Bool.false_or,Int.toNat_natCast] at hR
     rw [hsp] at hb4
     (refine Spec.intro (C:=T.cfg [] []) (rs:= [.t 4]) (T.aq _ _) Tryz.func112 rfl rfl Tryz.ntmps112 Tryz.results112 (by simp [AObj.isNest]) (by simp [AObj.isNest]) (by kernel_rfl) ?_;intro X hX hP hC aN aO vals hA;refine ⟨_,by simp,hA, ?_⟩;have af:X.P.follows .mixedOrders=true:=(by rw [hP];exact T.mixed);clear aN aO)
     repeat' (first|fail|((first|((with_reducible (first|apply oA|apply oB));exact rfl;intro K hK)|(refine hK _ ?_;clear hK K)|((with_reducible (first|apply oG|apply oH));iterate 3 exact rfl)|((with_reducible apply oI);(iterate 2 exact rfl);intro K hK)|(with_reducible (first|apply wI|apply wJ|apply wK)));try simp only [go_sem,simprocAttr,ah,hR,an,aj,bt,hb4,uP,hsp])|fail|(with_reducible (first|apply oC|apply oJ|exact oK|apply wA|apply wB|apply wC hX hC|apply wD hX hC|apply wE hX hC af|apply wF hX hC af|apply wG|apply wH|apply And.intro))|((with_reducible refine oD ?_ ?_);first|fail|kernel_rfl)|((with_reducible (first|apply oE|apply oF));(iterate 3 exact rfl);all_goals (intro h;first|(exact absurd h (by decide))|((try simp only [go_sem,simprocAttr,ah,hR,an,aj,bt,hb4,uP,hsp] at h);(try with_reducible intro K hK);simp only [go_sem,simprocAttr,ah,hR,an,aj,bt,hb4,uP,hsp])))|((first|((with_reducible apply wL);exact rfl)|((with_reducible apply wM);exact rfl));all_goals (try ((with_reducible intro h);first|(exact absurd h (by decide))|(try simp only [go_sem,simprocAttr,ah,hR,an,aj,bt,hb4,uP,hsp] at h))))|omega|((first|first|refine aa hX hC hP (jJ g hm x) rfl rfl rfl (by simp only [go_sem,simprocAttr,ah,hR,an,aj,bt,hb4,uP,hsp]) rfl ?_|refine aa hX hC hP (bn f.pl x hp) rfl rfl rfl (by simp only [go_sem,simprocAttr,ah,hR,an,aj,bt,hb4,uP,hsp]) rfl ?_|refine aa hX hC hP (eC [vw g,sI f.pl] f.row x hr) rfl rfl rfl (by simp only [go_sem,simprocAttr,ah,hR,an,aj,bt,hb4,uP,hsp]) rfl ?_|refine aa hX hC hP (gq [vw g,sI f.pl] f.row x a b hab dK hr) rfl rfl rfl (by simp only [go_sem,simprocAttr,ah,hR,an,aj,bt,hb4,uP,hsp]) rfl ?_);try simp only [go_sem,simprocAttr,ah,hR,an,aj,bt,hb4,uP,hsp])|(intro h))
  ·have hb4:decide ((aT f.row x).2.2=((bp (·.2) g x).length:Int))=false:=decide_eq_false h4
   rw [hb4,Bool.false_and] at hR
   (refine Spec.intro (C:=T.cfg [] []) (rs:= [.t 4]) (T.aq _ _) Tryz.func112 rfl rfl Tryz.ntmps112 Tryz.results112 (by simp [AObj.isNest]) (by simp [AObj.isNest]) (by kernel_rfl) ?_;intro X hX hP hC aN aO vals hA;refine ⟨_,by simp,hA, ?_⟩;have af:X.P.follows .mixedOrders=true:=(by rw [hP];exact T.mixed);clear aN aO)
   repeat' (first|fail|((first|((with_reducible (first|apply oA|apply oB));exact rfl;intro K hK)|(refine hK _ ?_;clear hK K)|((with_reducible (first|apply oG|apply oH));iterate 3 exact rfl)|((with_reducible apply oI);(iterate 2 exact rfl);intro K hK)|(with_reducible (first|apply wI|apply wJ|apply wK)));try simp only [go_sem,simprocAttr,ah,hR,an,aj,bt,hb4])|fail|(with_reducible (first|apply oC|apply oJ|exact oK|apply wA|apply wB|apply wC hX hC|apply wD hX hC|apply wE hX hC af|apply wF hX hC af|apply wG|apply wH|apply And.intro))|((with_reducible refine oD ?_ ?_);first|fail|kernel_rfl)|((with_reducible (first|apply oE|apply oF));(iterate 3 exact rfl);all_goals (intro h;first|(exact absurd h (by decide))|((try simp only [go_sem,simprocAttr,ah,hR,an,aj,bt,hb4] at h);(try with_reducible intro K hK);simp only [go_sem,simprocAttr,ah,hR,an,aj,bt,hb4])))|((first|((with_reducible apply wL);exact rfl)|((with_reducible apply wM);exact rfl));all_goals (try ((with_reducible intro h);first|(exact absurd h (by decide))|(try simp only [go_sem,simprocAttr,ah,hR,an,aj,bt,hb4] at h))))|omega|((first|first|refine aa hX hC hP (jJ g hm x) rfl rfl rfl (by simp only [go_sem,simprocAttr,ah,hR,an,aj,bt,hb4]) rfl ?_|refine aa hX hC hP (bn f.pl x hp) rfl rfl rfl (by simp only [go_sem,simprocAttr,ah,hR,an,aj,bt,hb4]) rfl ?_|refine aa hX hC hP (eC [vw g,sI f.pl] f.row x hr) rfl rfl rfl (by simp only [go_sem,simprocAttr,ah,hR,an,aj,bt,hb4]) rfl ?_|refine aa hX hC hP (gq [vw g,sI f.pl] f.row x a b hab dK hr) rfl rfl rfl (by simp only [go_sem,simprocAttr,ah,hR,an,aj,bt,hb4]) rfl ?_);try simp only [go_sem,simprocAttr,ah,hR,an,aj,bt,hb4])|(intro h))
theorem Ac (ds:List D) (row:List It) (hr:row.length≤1000000):Spec Tryz.prog 87 (Args [.d (.pt (sT row::ds))]) [] (.ref 10000) [(10000, .tip 96 3 (row.map rT))]:=by
 (refine Spec.fM (C:=T.cfg [] []) (rs:= [.t 2]) [(10000,7)] (T.aq _ _) Tryz.func87 rfl rfl Tryz.ntmps87 Tryz.results87 (by simp [AObj.isNest]) (by simp [AObj.isNest]) (by first|(simp [look];done)|(simp [asN];done)|(intro l hl;simp only [asN];repeat (rw [if_neg (fun e=>by subst e;simp [look] at hl)]))) (by first|(simp [look];done)|(simp [asN];done)|(intro l hl;simp only [asN];repeat (rw [if_neg (fun e=>by subst e;simp [look] at hl)]))) (by kernel_rfl) ?_;intro X hX hP hC aN aO vals hA;refine ⟨_,by simp,hA, ?_⟩;have af:X.P.follows .mixedOrders=true:=(by rw [hP];exact T.mixed);clear aN aO)
 repeat' (first|fail|((first|((with_reducible (first|apply oA|apply oB));exact rfl;intro K hK)|(refine hK _ ?_;clear hK K)|((with_reducible (first|apply oG|apply oH));iterate 3 exact rfl)|((with_reducible apply oI);(iterate 2 exact rfl);intro K hK)|(with_reducible (first|apply wI|apply wJ|apply wK)));try simp only [go_sem,simprocAttr])|fail|(with_reducible (first|apply oC|apply oJ|exact oK|apply wA|apply wB|apply wC hX hC|apply wD hX hC|apply wE hX hC af|apply wF hX hC af|apply wG|apply wH|apply And.intro))|((with_reducible refine oD ?_ ?_);first|fail|kernel_rfl)|((with_reducible (first|apply oE|apply oF));(iterate 3 exact rfl);all_goals (intro h;first|(exact absurd h (by decide))|((try simp only [go_sem,simprocAttr] at h);(try with_reducible intro K hK);simp only [go_sem,simprocAttr])))|((first|((with_reducible apply wL);exact rfl)|((with_reducible apply wM);exact rfl));all_goals (try ((with_reducible intro h);first|(exact absurd h (by decide))|(try simp only [go_sem,simprocAttr] at h))))|omega|((first|(refine az hX hC hP [(10000,7)] (pF row hr) rfl rfl rfl ?_ ?_ ?_ ?_ ?_ ?_ ?_ ?_ ?_ ?_ ?_ ?_ ?_ ?_;(focus (simp only [go_sem,simprocAttr];done));(iterate 12 (focus (simp [go_sem,simprocAttr];done)));simp only [go_sem,simprocAttr,List.map_cons,List.map_nil]));try simp only [go_sem,simprocAttr])|(intro h))
end Go.Ab
end
section
namespace Go.Ab
open Go.Proofs
attribute [local congr] ACall.congr
set_option maxRecDepth 10000
set_option maxHeartbeats 2000000
theorem cz (l:List Int):Spec Tryz.prog 110 (Args [.d (sI l)]) [] (.fn 137 [] [.ptr 10000 0]) [(10000, .box [.d (sI l)])]:=by
 (refine Spec.fM (C:=T.cfg [] []) (rs:= [.t 2]) [(10000,1)] (T.aq _ _) Tryz.func110 rfl rfl Tryz.ntmps110 Tryz.results110 (by simp [AObj.isNest]) (by simp [AObj.isNest]) (by first|(simp [look];done)|(simp [asN];done)|(intro l hl;simp only [asN];repeat (rw [if_neg (fun e=>by subst e;simp [look] at hl)]))) (by first|(simp [look];done)|(simp [asN];done)|(intro l hl;simp only [asN];repeat (rw [if_neg (fun e=>by subst e;simp [look] at hl)]))) (by kernel_rfl) ?_;intro X hX hP hC aN aO vals hA;refine ⟨_,by simp,hA, ?_⟩;have af:X.P.follows .mixedOrders=true:=(by rw [hP];exact T.mixed);clear aN aO)
 repeat' (first|fail|((first|((with_reducible (first|apply oA|apply oB));exact rfl;intro K hK)|(refine hK _ ?_;clear hK K)|((with_reducible (first|apply oG|apply oH));iterate 3 exact rfl)|((with_reducible apply oI);(iterate 2 exact rfl);intro K hK)|(with_reducible (first|apply wI|apply wJ|apply wK)));try simp only [go_sem,simprocAttr])|fail|(with_reducible (first|apply oC|apply oJ|exact oK|apply wA|apply wB|apply wC hX hC|apply wD hX hC|apply wE hX hC af|apply wF hX hC af|apply wG|apply wH|apply And.intro))|((with_reducible refine oD ?_ ?_);first|fail|kernel_rfl)|((with_reducible (first|apply oE|apply oF));(iterate 3 exact rfl);all_goals (intro h;first|(exact absurd h (by decide))|((try simp only [go_sem,simprocAttr] at h);(try with_reducible intro K hK);simp only [go_sem,simprocAttr])))|((first|((with_reducible apply wL);exact rfl)|((with_reducible apply wM);exact rfl));all_goals (try ((with_reducible intro h);first|(exact absurd h (by decide))|(try simp only [go_sem,simprocAttr] at h))))|omega|((first|fail);try simp only [go_sem,simprocAttr])|(intro h))
theorem fE (xs ys:List Int) (hlen:xs.length≤9223372036854775807):Spec Tryz.prog 111 (Args [.d (sI xs), .d (sI ys)]) [] (eB (decide (xs=ys))) []:=by
 (refine Spec.intro (C:=T.cfg [] []) (rs:= [.t 4]) (T.aq _ _) Tryz.func111 rfl rfl Tryz.ntmps111 Tryz.results111 (by simp [AObj.isNest]) (by simp [AObj.isNest]) (by kernel_rfl) ?_;intro X hX hP hC aN aO vals hA;refine ⟨_,by simp,hA, ?_⟩;have af:X.P.follows .mixedOrders=true:=(by rw [hP];exact T.mixed);clear aN aO)
 repeat' (first|fail|((first|((with_reducible (first|apply oA|apply oB));exact rfl;intro K hK)|(refine hK _ ?_;clear hK K)|((with_reducible (first|apply oG|apply oH));iterate 3 exact rfl)|((with_reducible apply oI);(iterate 2 exact rfl);intro K hK)|(with_reducible (first|apply wI|apply wJ|apply wK)));try simp only [go_sem,simprocAttr])|fail|(with_reducible (first|apply oC|apply oJ|exact oK|apply wA|apply wB|apply wC hX hC|apply wD hX hC|apply wE hX hC af|apply wF hX hC af|apply wG|apply wH|apply And.intro))|((with_reducible refine oD ?_ ?_);first|fail|kernel_rfl)|((with_reducible (first|apply oE|apply oF));(iterate 3 exact rfl);all_goals (intro h;first|(exact absurd h (by decide))|((try simp only [go_sem,simprocAttr] at h);(try with_reducible intro K hK);simp only [go_sem,simprocAttr])))|((first|((with_reducible apply wL);exact rfl)|((with_reducible apply wM);exact rfl));all_goals (try ((with_reducible intro h);first|(exact absurd h (by decide))|(try simp only [go_sem,simprocAttr] at h))))|omega|((first|fail);try simp only [go_sem,simprocAttr])|(intro h))
 ·have:xs≠ys:=fun e=>h (by rw [e])
  simp [this]
 refine ak (fun k:Nat=>k≤xs.length∧xs.take k=ys.take k) (fun k=>⟨[(0, .d (sI xs)),(1, .d (sI ys)),(12,eN xs.length),(13,eN k)], []⟩) (fun k=>xs.length - k) 0 (by simp) ?_ ?_
 ·(refine ⟨bN ?_,fun _ _ h=>h⟩;simp [go_sem,simprocAttr])
 rintro k ⟨hk,hp⟩
 have yz:xs.length=ys.length:=by omega
 repeat' (first|fail|((first|((with_reducible (first|apply oA|apply oB));exact rfl;intro K hK)|(refine hK _ ?_;clear hK K)|((with_reducible (first|apply oG|apply oH));iterate 3 exact rfl)|((with_reducible apply oI);(iterate 2 exact rfl);intro K hK)|(with_reducible (first|apply wI|apply wJ|apply wK)));try simp only [go_sem,simprocAttr])|fail|(with_reducible (first|apply oC|apply oJ|exact oK|apply wA|apply wB|apply wC hX hC|apply wD hX hC|apply wE hX hC af|apply wF hX hC af|apply wG|apply wH|apply And.intro))|((with_reducible refine oD ?_ ?_);first|fail|kernel_rfl)|((with_reducible (first|apply oE|apply oF));(iterate 3 exact rfl);all_goals (intro h;first|(exact absurd h (by decide))|((try simp only [go_sem,simprocAttr] at h);(try with_reducible intro K hK);simp only [go_sem,simprocAttr])))|((first|((with_reducible apply wL);exact rfl)|((with_reducible apply wM);exact rfl));all_goals (try ((with_reducible intro h);first|(exact absurd h (by decide))|(try simp only [go_sem,simprocAttr] at h))))|omega|((first|fail);try simp only [go_sem,simprocAttr])|(intro h))
 ·have:xs≠ys:=fun e=>h (by rw [e])
  simp [this]
 ·refine ⟨k+1,⟨by omega,ou 0 (by omega) (by omega) hp h⟩, ?_,by omega⟩
  (refine ⟨bN ?_,fun _ _ h=>h⟩;simp [go_sem,simprocAttr])
 ·have:k=xs.length:=by omega
  subst this
  rw [List.take_of_length_le (Nat.le_refl _),List.take_of_length_le (by omega)] at hp
  simp [hp]
def fQ (g:Gr) (x:Int) (i:Int):It:=(i,x,(g.es.getD i.toNat (0,0)).2)
def aJ (g:Gr) (x:Int) (outs:List Int):List It:=if outs= [] then [(-1,x, -1)] else outs.map (fQ g x)
theorem rK {α β:Type} {f:α→β} {l:List α} {d:α} {k:Nat} (h:k<l.length):(l.take (k+1)).map f=(l.take k).map f++ [f (l.getD k d)]:=by
 rw [List.take_add_one,List.map_append,List.getElem?_eq_getElem h,List.getD_eq_getElem?_getD,List.getElem?_eq_getElem h]
 rfl
theorem x4 (g:Gr) (f:Fr) (x:Int) (outs:List Int) (hl:outs.length≤1000000) (ho:∀i∈outs,0≤i∧i<g.es.length):Spec Tryz.prog 115 (Args [.d (fV g f),eN x, .d (sI outs)]) [] (.ref 10000) [(10000, .tip 96 3 ((aJ g x outs).map rT))]:=by
 unfold fV
 by_cases h0:outs= []
 ·subst h0
  have hA:aJ g x []= [(-1,x, -1)]:=if_pos rfl
  rw [hA]
  (refine Spec.fM (C:=T.cfg [] []) (rs:= [.t 6]) [(10000,14)] (T.aq _ _) Tryz.func115 rfl rfl Tryz.ntmps115 Tryz.results115 (by simp [AObj.isNest]) (by simp [AObj.isNest]) (by first|(simp [look];done)|(simp [asN];done)|(intro l hl;simp only [asN];repeat (rw [if_neg (fun e=>by subst e;simp [look] at hl)]))) (by first|(simp [look];done)|(simp [asN];done)|(intro l hl;simp only [asN];repeat (rw [if_neg (fun e=>by subst e;simp [look] at hl)]))) (by kernel_rfl) ?_;intro X hX hP hC aN aO vals hA;refine ⟨_,by simp,hA, ?_⟩;have af:X.P.follows .mixedOrders=true:=(by rw [hP];exact T.mixed);clear aN aO)
  repeat' (first|fail|((first|((with_reducible (first|apply oA|apply oB));exact rfl;intro K hK)|(refine hK _ ?_;clear hK K)|((with_reducible (first|apply oG|apply oH));iterate 3 exact rfl)|((with_reducible apply oI);(iterate 2 exact rfl);intro K hK)|(with_reducible (first|apply wI|apply wJ|apply wK)));try simp only [go_sem,simprocAttr,ah])|fail|(with_reducible (first|apply oC|apply oJ|exact oK|apply wA|apply wB|apply wC hX hC|apply wD hX hC|apply wE hX hC af|apply wF hX hC af|apply wG|apply wH|apply And.intro))|((with_reducible refine oD ?_ ?_);first|fail|kernel_rfl)|((with_reducible (first|apply oE|apply oF));(iterate 3 exact rfl);all_goals (intro h;first|(exact absurd h (by decide))|((try simp only [go_sem,simprocAttr,ah] at h);(try with_reducible intro K hK);simp only [go_sem,simprocAttr,ah])))|((first|((with_reducible apply wL);exact rfl)|((with_reducible apply wM);exact rfl));all_goals (try ((with_reducible intro h);first|(exact absurd h (by decide))|(try simp only [go_sem,simprocAttr,ah] at h))))|omega|((first|fail);try simp only [go_sem,simprocAttr,ah])|(intro h))
 ·have hA:aJ g x outs=outs.map (fQ g x):=if_neg h0
  rw [hA]
  have hb0:decide ((outs.length:Int)=0)=false:=decide_eq_false fun h=>h0 (List.eq_nil_of_length_eq_zero (by omega))
  (refine Spec.fM (C:=T.cfg [] []) (rs:= [.t 6]) [(10000,38)] (T.aq _ _) Tryz.func115 rfl rfl Tryz.ntmps115 Tryz.results115 (by simp [AObj.isNest]) (by simp [AObj.isNest]) (by first|(simp [look];done)|(simp [asN];done)|(intro l hl;simp only [asN];repeat (rw [if_neg (fun e=>by subst e;simp [look] at hl)]))) (by first|(simp [look];done)|(simp [asN];done)|(intro l hl;simp only [asN];repeat (rw [if_neg (fun e=>by subst e;simp [look] at hl)]))) (by kernel_rfl) ?_;intro X hX hP hC aN aO vals hA;refine ⟨_,by simp,hA, ?_⟩;have af:X.P.follows .mixedOrders=true:=(by rw [hP];exact T.mixed);clear aN aO)
  repeat' (first|fail|((first|((with_reducible (first|apply oA|apply oB));exact rfl;intro K hK)|(refine hK _ ?_;clear hK K)|((with_reducible (first|apply oG|apply oH));iterate 3 exact rfl)|((with_reducible apply oI);(iterate 2 exact rfl);intro K hK)|(with_reducible (first|apply wI|apply wJ|apply wK)));try simp only [go_sem,simprocAttr,ah,hb0])|fail|(with_reducible (first|apply oC|apply oJ|exact oK|apply wA|apply wB|apply wC hX hC|apply wD hX hC|apply wE hX hC af|apply wF hX hC af|apply wG|apply wH|apply And.intro))|((with_reducible refine oD ?_ ?_);first|fail|kernel_rfl)|((with_reducible (first|apply oE|apply oF));(iterate 3 exact rfl);all_goals (intro h;first|(exact absurd h (by decide))|((try simp only [go_sem,simprocAttr,ah,hb0] at h);(try with_reducible intro K hK);simp only [go_sem,simprocAttr,ah,hb0])))|((first|((with_reducible apply wL);exact rfl)|((with_reducible apply wM);exact rfl));all_goals (try ((with_reducible intro h);first|(exact absurd h (by decide))|(try simp only [go_sem,simprocAttr,ah,hb0] at h))))|omega|((first|fail);try simp only [go_sem,simprocAttr,ah,hb0])|(intro h))
  (refine j4 hX 6 38 (.tip 96 3 []) (by simp only [go_sem,simprocAttr,ah,hb0]) (by simp only [go_sem,simprocAttr,ah,hb0]) (by decide) ⟨96,3,by decide, .inr rfl⟩ ?_;simp only [go_sem,simprocAttr,ah,hb0])
  refine ak (fun k:Nat=>k≤outs.length) (fun k=>⟨[(0, .d (fV g f)),(1,eN x),(15, .d (sI outs)),(16,eN outs.length),(17,eN k),(6, .ref 38)], [(38, .tip 96 3 (((outs.take k).map (fQ g x)).map rT))]⟩) (fun k=>outs.length - k) 0 (by omega) ?_ ?_
  ·refine Le.of ?_ ?_<;>simp [go_sem,simprocAttr,ah,hb0,fV]
  unfold fV
  rintro k hk
  rcases Nat.lt_or_ge k outs.length with hlt|hge
  ·have hb:decide ((k:Int)<(outs.length:Int))=true:=decide_eq_true (by omega)
   have dQ:=rK (f:=fQ g x) (d:=0) hlt
   have G5:=ho _ (aK (d:=0) hlt)
   have hlk:(outs.take k).length=k:=by simp;omega
   repeat' (first|fail|((first|((with_reducible (first|apply oA|apply oB));exact rfl;intro K hK)|(refine hK _ ?_;clear hK K)|((with_reducible (first|apply oG|apply oH));iterate 3 exact rfl)|((with_reducible apply oI);(iterate 2 exact rfl);intro K hK)|(with_reducible (first|apply wI|apply wJ|apply wK)));try simp only [go_sem,simprocAttr,ah,hb,hlk])|fail|(with_reducible (first|apply oC|apply oJ|exact oK|apply wA|apply wB|apply wC hX hC|apply wD hX hC|apply wE hX hC af|apply wF hX hC af|apply wG|apply wH|apply And.intro))|((with_reducible refine oD ?_ ?_);first|fail|kernel_rfl)|((with_reducible (first|apply oE|apply oF));(iterate 3 exact rfl);all_goals (intro h;first|(exact absurd h (by decide))|((try simp only [go_sem,simprocAttr,ah,hb,hlk] at h);(try with_reducible intro K hK);simp only [go_sem,simprocAttr,ah,hb,hlk])))|((first|((with_reducible apply wL);exact rfl)|((with_reducible apply wM);exact rfl));all_goals (try ((with_reducible intro h);first|(exact absurd h (by decide))|(try simp only [go_sem,simprocAttr,ah,hb,hlk] at h))))|omega|((first|fail);try simp only [go_sem,simprocAttr,ah,hb,hlk])|(intro h))
   refine ⟨k+1,by omega, ?_,by omega⟩
   refine Le.of ?_ ?_<;>simp [go_sem,simprocAttr,ah,hb,hlk,dQ,fQ]
  ·have hb:decide ((k:Int)<(outs.length:Int))=false:=decide_eq_false (by omega)
   obtain rfl:k=outs.length:=by omega
   have ht:outs.take outs.length=outs:=List.take_of_length_le (by omega)
   repeat' (first|fail|((first|((with_reducible (first|apply oA|apply oB));exact rfl;intro K hK)|(refine hK _ ?_;clear hK K)|((with_reducible (first|apply oG|apply oH));iterate 3 exact rfl)|((with_reducible apply oI);(iterate 2 exact rfl);intro K hK)|(with_reducible (first|apply wI|apply wJ|apply wK)));try simp only [go_sem,simprocAttr,ah,hb,ht])|fail|(with_reducible (first|apply oC|apply oJ|exact oK|apply wA|apply wB|apply wC hX hC|apply wD hX hC|apply wE hX hC af|apply wF hX hC af|apply wG|apply wH|apply And.intro))|((with_reducible refine oD ?_ ?_);first|fail|kernel_rfl)|((with_reducible (first|apply oE|apply oF));(iterate 3 exact rfl);all_goals (intro h;first|(exact absurd h (by decide))|((try simp only [go_sem,simprocAttr,ah,hb,ht] at h);(try with_reducible intro K hK);simp only [go_sem,simprocAttr,ah,hb,ht])))|((first|((with_reducible apply wL);exact rfl)|((with_reducible apply wM);exact rfl));all_goals (try ((with_reducible intro h);first|(exact absurd h (by decide))|(try simp only [go_sem,simprocAttr,ah,hb,ht] at h))))|omega|((first|fail);try simp only [go_sem,simprocAttr,ah,hb,ht])|(intro h))
def iN (g:Gr) (f:Fr):List (Nat × AObj):= [(10000, .box [.d (sT f.row), .d (vw g), .ref 10001]),(10001, .tip 3 1 (f.pl.map rI))]
theorem uQ (row items:List It) (a b:Nat) (h0:0<items.length) (hr:row.length≤400000) (hi:items.length≤100000):Spec Tryz.prog 139 (Args [.d (.sl 1 [[.sl 3 (List.take a (row.map rT))], [.sl 3 (items.map rT)], [.sl 3 (List.drop b (row.map rT))]])]) [] (.d (sT (row.take a++items++row.drop b))) []:=by
 have hf: [row.take a,items,row.drop b].flatten=row.take a++items++row.drop b:=by simp
 have hlen: [row.take a,items,row.drop b].flatten.length=min a row.length+items.length+(row.length - b):=by simp;omega
 have:=uO [row.take a,items,row.drop b] (by simp) (by omega) (by omega)
 rw [hf] at this
 simpa only [vT,List.map_cons,List.map_nil,sT,List.map_take,List.map_drop] using this
theorem Ad (g:Gr) (row items:List It) (pl:List Int) (a b:Nat) (hab:a≤b) (hb:b≤row.length) (h0:0<items.length) (hr:row.length≤400000) (hi:items.length≤100000):
 Spec Tryz.prog 114 (Args [.ptr 10000 0,eN a,eN b, .ref 10003]) (iN g ⟨row,pl⟩++ [(10003, .tip 96 3 (items.map rT))]) (.d (sT ((row.take b).drop a))) (iN g ⟨row.take a++items++row.drop b,pl⟩):=by
 have dL:((row.take b).drop a).length≤1000000:=by simp;omega
 have uR:List.take row.length (row.map rT)=row.map rT:=List.take_of_length_le (by simp)
 unfold iN
 simp only [List.cons_append,List.nil_append]
 (refine Spec.intro (C:=T.cfg [] []) (rs:= [.t 8]) (T.aq _ _) Tryz.func114 rfl rfl Tryz.ntmps114 Tryz.results114 (by simp [AObj.isNest]) (by simp [AObj.isNest]) (by kernel_rfl) ?_;intro X hX hP hC aN aO vals hA;refine ⟨_,by simp,hA, ?_⟩;have af:X.P.follows .mixedOrders=true:=(by rw [hP];exact T.mixed);clear aN aO)
 repeat' (first|fail|((first|((with_reducible (first|apply oA|apply oB));exact rfl;intro K hK)|(refine hK _ ?_;clear hK K)|((with_reducible (first|apply oG|apply oH));iterate 3 exact rfl)|((with_reducible apply oI);(iterate 2 exact rfl);intro K hK)|(with_reducible (first|apply wI|apply wJ|apply wK)));try simp only [go_sem,simprocAttr,List.map_take,List.map_drop,uR])|fail|(with_reducible (first|apply oC|apply oJ|exact oK|apply wA|apply wB|apply wC hX hC|apply wD hX hC|apply wE hX hC af|apply wF hX hC af|apply wG|apply wH|apply And.intro))|((with_reducible refine oD ?_ ?_);first|fail|kernel_rfl)|((with_reducible (first|apply oE|apply oF));(iterate 3 exact rfl);all_goals (intro h;first|(exact absurd h (by decide))|((try simp only [go_sem,simprocAttr,List.map_take,List.map_drop,uR] at h);(try with_reducible intro K hK);simp only [go_sem,simprocAttr,List.map_take,List.map_drop,uR])))|((first|((with_reducible apply wL);exact rfl)|((with_reducible apply wM);exact rfl));all_goals (try ((with_reducible intro h);first|(exact absurd h (by decide))|(try simp only [go_sem,simprocAttr,List.map_take,List.map_drop,uR] at h))))|omega|((first|first|(refine az hX hC hP [(10000,17)] (pF ((row.take b).drop a) dL) rfl rfl rfl ?_ ?_ ?_ ?_ ?_ ?_ ?_ ?_ ?_ ?_ ?_ ?_ ?_ ?_;(focus (simp only [go_sem,simprocAttr,List.map_take,List.map_drop,uR];done));(iterate 12 (focus (simp [go_sem,simprocAttr,List.map_take,List.map_drop,uR];done)));simp only [go_sem,simprocAttr,List.map_take,List.map_drop,uR,List.map_cons,List.map_nil])|(refine bM hX hC hP (uQ row items a b h0 hr hi) rfl rfl rfl ?_ ?_ rfl ?_;iterate 2 (focus (simp only [go_sem,simprocAttr,List.map_take,List.map_drop,uR];done))));try simp only [go_sem,simprocAttr,List.map_take,List.map_drop,uR])|(intro h))
end Go.Ab
end
section
namespace Go.Ab
open Go.Proofs
attribute [local congr] ACall.congr
set_option maxRecDepth 10000
set_option maxHeartbeats 4000000
def rL (g:Gr) (f:Fr):List (Nat × AObj):= [(10000, .box [.d (sT f.row), .d (vw g), .ref 10002]),(10002, .tip 3 1 (f.pl.map rI))]
def jh (g:Gr) (f:Fr) (x:Int) (outs:List Int):(List It × Int) × Fr:=
 if gr g f x=false then (([],3),f) else if gN outs≠bp (·.1) g x then (([],1),f) else
 (((f.row.take (aT f.row x).2.1.toNat).drop (max (aT f.row x).1 0).toNat,0),⟨f.row.take (max (aT f.row x).1 0).toNat++aJ g x outs++f.row.drop (aT f.row x).2.1.toNat,f.pl++ [x]⟩)
theorem ig {f:Edge→Int} {es:List Edge} {k:Nat} {x i:Int} (h:i∈bg f es k x):(0≤i∧i<k)∧f (es.getD i.toNat (0,0))=x:=by
 simp only [bg,List.mem_map,List.mem_filter,List.mem_range,decide_eq_true_eq] at h
 obtain ⟨j,⟨h1,h2⟩,rfl⟩:=h
 exact ⟨⟨Int.natCast_nonneg j,by simp;omega⟩,h2⟩
theorem x5 {f:Edge→Int} {g:Gr} {x i:Int} (h:i∈bp f g x):(0≤i∧i<g.es.length)∧f (g.es.getD i.toNat (0,0))=x:=by
 unfold bp at h
 split at h
 ·exact ig h
 ·cases h
theorem wu {l:List Int} {x:Int} :x∈gN l↔x∈l:=by simp [gN]
theorem tf (row:List It) (x:Int):∃a b:Nat,max (aT row x).1 0=(a:Int)∧(aT row x).2.1=(b:Int)∧a≤b∧b≤row.length:=by
 rcases cU (row:=row) (x:=x) row.length with ⟨h,_⟩|⟨a,b,c,h,h1,h2,_⟩
 ·exact ⟨0,0,by unfold aT;rw [h];rfl,by unfold aT;rw [h];rfl,by omega,by omega⟩
 ·exact ⟨a,b,by unfold aT;rw [h];simp only;omega,by unfold aT;rw [h],by omega,by omega⟩
theorem ki {g:Gr} {x:Int} {outs:List Int} :0<(aJ g x outs).length∧(aJ g x outs).length≤outs.length+1:=by
 unfold aJ
 split
 ·simp
 ·rename_i h
  have:=List.length_pos_iff.2 h
  simp;omega
theorem x6 (g:Gr) (hm:aU g=true) (f:Fr) (x:Int) (outs:List Int) (hr:f.row.length≤300000) (hp:f.pl.length≤100000) (ho:outs.length≤17592186043904):
 Spec Tryz.prog 86 (Args [.ptr 10000 0,eN x, .d (sI outs)]) (iN g f) (.tup [.d (sT (jh g f x outs).1.1),eN (jh g f x outs).1.2]) (rL g (jh g f x outs).2):=by
 have jd:f.row.length≤1000000:=by omega
 have hp1:f.pl.length≤1000000:=by omega
 have hs:(gN outs).length≤9223372036854775807:=by rw [fh];omega
 have hn:=aZ hm
 cases hR:gr g f x with
 |false=>
  have hP:jh g f x outs=(([],3),f):=if_pos hR
  rw [hP]
  unfold iN rL
  (refine Spec.fM (C:=T.cfg [] []) (rs:= [.t 6, .t 7]) [(10002,10001)] (T.aq _ _) Tryz.func86 rfl rfl Tryz.ntmps86 Tryz.results86 (by simp [AObj.isNest]) (by simp [AObj.isNest]) (by first|(simp [look];done)|(simp [asN];done)|(intro l hl;simp only [asN];repeat (rw [if_neg (fun e=>by subst e;simp [look] at hl)]))) (by first|(simp [look];done)|(simp [asN];done)|(intro l hl;simp only [asN];repeat (rw [if_neg (fun e=>by subst e;simp [look] at hl)]))) (by kernel_rfl) ?_;intro X hX hP hC aN aO vals hA;refine ⟨_,by simp,hA, ?_⟩;have af:X.P.follows .mixedOrders=true:=(by rw [hP];exact T.mixed);clear aN aO)
  repeat' (first|fail|((first|((with_reducible (first|apply oA|apply oB));exact rfl;intro K hK)|(refine hK _ ?_;clear hK K)|((with_reducible (first|apply oG|apply oH));iterate 3 exact rfl)|((with_reducible apply oI);(iterate 2 exact rfl);intro K hK)|(with_reducible (first|apply wI|apply wJ|apply wK)));try simp only [go_sem,simprocAttr,hR,fV])|fail|(with_reducible (first|apply oC|apply oJ|exact oK|apply wA|apply wB|apply wC hX hC|apply wD hX hC|apply wE hX hC af|apply wF hX hC af|apply wG|apply wH|apply And.intro))|((with_reducible refine oD ?_ ?_);first|fail|kernel_rfl)|((with_reducible (first|apply oE|apply oF));(iterate 3 exact rfl);all_goals (intro h;first|(exact absurd h (by decide))|((try simp only [go_sem,simprocAttr,hR,fV] at h);(try with_reducible intro K hK);simp only [go_sem,simprocAttr,hR,fV])))|((first|((with_reducible apply wL);exact rfl)|((with_reducible apply wM);exact rfl));all_goals (try ((with_reducible intro h);first|(exact absurd h (by decide))|(try simp only [go_sem,simprocAttr,hR,fV] at h))))|omega|((first|first|(refine ai hX hC hP (mI g hm f x jd hp1) rfl rfl rfl ?_ ?_ ?_ ?_;iterate 3 (focus (simp only [go_sem,simprocAttr,hR,fV];done)))|(refine az hX hC hP [(10000,16)] (cz outs) rfl rfl rfl ?_ ?_ ?_ ?_ ?_ ?_ ?_ ?_ ?_ ?_ ?_ ?_ ?_ ?_;(focus (simp only [go_sem,simprocAttr,hR,fV];done));(iterate 12 (focus (simp [go_sem,simprocAttr,hR,fV];done)));simp only [go_sem,simprocAttr,hR,fV,List.map_cons,List.map_nil])|(refine aR hX hC hP [(10000,16)] (bY outs ho) rfl rfl rfl ?_ ?_ ?_ ?_ ?_ ?_ rfl rfl ?_ ?_;(focus (simp only [go_sem,simprocAttr,hR,fV];done));(iterate 6 (focus (simp [go_sem,simprocAttr,hR,fV];done)));simp only [go_sem,simprocAttr,hR,fV,List.map_cons,List.map_nil])|refine aa hX hC hP (ic g hm x) rfl rfl rfl (by simp only [go_sem,simprocAttr,hR,fV]) rfl ?_|refine aa hX hC hP (fE (gN outs) (bp (·.1) g x) hs) rfl rfl rfl (by simp only [go_sem,simprocAttr,hR,fV]) rfl ?_|(refine ai hX hC hP (eC [vw g,sI f.pl] f.row x jd) rfl rfl rfl ?_ ?_ ?_ ?_;iterate 3 (focus (simp only [go_sem,simprocAttr,hR,fV];done))));try simp only [go_sem,simprocAttr,hR,fV])|(intro h))
 |true=>
 have FJ:¬gr g f x=false:=by rw [hR];simp
 by_cases hE:¬gN outs=bp (·.1) g x
 ·have an:decide (gN outs=bp (·.1) g x)=false:=decide_eq_false hE
  have hP:jh g f x outs=(([],1),f):=by unfold jh;rw [if_neg FJ,if_pos hE]
  rw [hP]
  unfold iN rL
  (refine Spec.fM (C:=T.cfg [] []) (rs:= [.t 6, .t 7]) [(10002,10001)] (T.aq _ _) Tryz.func86 rfl rfl Tryz.ntmps86 Tryz.results86 (by simp [AObj.isNest]) (by simp [AObj.isNest]) (by first|(simp [look];done)|(simp [asN];done)|(intro l hl;simp only [asN];repeat (rw [if_neg (fun e=>by subst e;simp [look] at hl)]))) (by first|(simp [look];done)|(simp [asN];done)|(intro l hl;simp only [asN];repeat (rw [if_neg (fun e=>by subst e;simp [look] at hl)]))) (by kernel_rfl) ?_;intro X hX hP hC aN aO vals hA;refine ⟨_,by simp,hA, ?_⟩;have af:X.P.follows .mixedOrders=true:=(by rw [hP];exact T.mixed);clear aN aO)
  repeat' (first|fail|((first|((with_reducible (first|apply oA|apply oB));exact rfl;intro K hK)|(refine hK _ ?_;clear hK K)|((with_reducible (first|apply oG|apply oH));iterate 3 exact rfl)|((with_reducible apply oI);(iterate 2 exact rfl);intro K hK)|(with_reducible (first|apply wI|apply wJ|apply wK)));try simp only [go_sem,simprocAttr,hR,an,fV])|fail|(with_reducible (first|apply oC|apply oJ|exact oK|apply wA|apply wB|apply wC hX hC|apply wD hX hC|apply wE hX hC af|apply wF hX hC af|apply wG|apply wH|apply And.intro))|((with_reducible refine oD ?_ ?_);first|fail|kernel_rfl)|((with_reducible (first|apply oE|apply oF));(iterate 3 exact rfl);all_goals (intro h;first|(exact absurd h (by decide))|((try simp only [go_sem,simprocAttr,hR,an,fV] at h);(try with_reducible intro K hK);simp only [go_sem,simprocAttr,hR,an,fV])))|((first|((with_reducible apply wL);exact rfl)|((with_reducible apply wM);exact rfl));all_goals (try ((with_reducible intro h);first|(exact absurd h (by decide))|(try simp only [go_sem,simprocAttr,hR,an,fV] at h))))|omega|((first|first|(refine ai hX hC hP (mI g hm f x jd hp1) rfl rfl rfl ?_ ?_ ?_ ?_;iterate 3 (focus (simp only [go_sem,simprocAttr,hR,an,fV];done)))|(refine az hX hC hP [(10000,16)] (cz outs) rfl rfl rfl ?_ ?_ ?_ ?_ ?_ ?_ ?_ ?_ ?_ ?_ ?_ ?_ ?_ ?_;(focus (simp only [go_sem,simprocAttr,hR,an,fV];done));(iterate 12 (focus (simp [go_sem,simprocAttr,hR,an,fV];done)));simp only [go_sem,simprocAttr,hR,an,fV,List.map_cons,List.map_nil])|(refine aR hX hC hP [(10000,16)] (bY outs ho) rfl rfl rfl ?_ ?_ ?_ ?_ ?_ ?_ rfl rfl ?_ ?_;(focus (simp only [go_sem,simprocAttr,hR,an,fV];done));(iterate 6 (focus (simp [go_sem,simprocAttr,hR,an,fV];done)));simp only [go_sem,simprocAttr,hR,an,fV,List.map_cons,List.map_nil])|refine aa hX hC hP (ic g hm x) rfl rfl rfl (by simp only [go_sem,simprocAttr,hR,an,fV]) rfl ?_|refine aa hX hC hP (fE (gN outs) (bp (·.1) g x) hs) rfl rfl rfl (by simp only [go_sem,simprocAttr,hR,an,fV]) rfl ?_|(refine ai hX hC hP (eC [vw g,sI f.pl] f.row x jd) rfl rfl rfl ?_ ?_ ?_ ?_;iterate 3 (focus (simp only [go_sem,simprocAttr,hR,an,fV];done))));try simp only [go_sem,simprocAttr,hR,an,fV])|(intro h))
 rw [Decidable.not_not] at hE
 have an:decide (gN outs=bp (·.1) g x)=true:=decide_eq_true hE
 have hP:jh g f x outs=(((f.row.take (aT f.row x).2.1.toNat).drop (max (aT f.row x).1 0).toNat,0),⟨f.row.take (max (aT f.row x).1 0).toNat++aJ g x outs++f.row.drop (aT f.row x).2.1.toNat,f.pl++ [x]⟩):=by
  unfold jh;rw [if_neg FJ,if_neg (by rw [hE];simp)]
 rw [hP]
 obtain ⟨a,b,ha,hb,hab,dK⟩:=tf f.row x
 rw [ha,hb]
 simp only [Int.toNat_natCast]
 have zB:outs.length≤128:=by
  have h1:=congrArg List.length hE
  rw [fh] at h1
  have h2:=x3 (f:=(·.1)) (g:=g) (x:=x)
  omega
 have Ea:∀i∈outs,0≤i∧i<g.es.length:=fun i hi=>(x5 (f:=(·.1)) (g:=g) (x:=x) (by rw [← hE];exact wu.2 hi)).1
 obtain ⟨h0,h1⟩:=ki (g:=g) (x:=x) (outs:=outs)
 have gA:(aJ g x outs).length≤100000:=by omega
 have xm:f.row.length≤400000:=by omega
 have LP:outs.length≤1000000:=by omega
 unfold iN rL
 (refine Spec.fM (C:=T.cfg [] []) (rs:= [.t 6, .t 7]) [(10002,42)] (T.aq _ _) Tryz.func86 rfl rfl Tryz.ntmps86 Tryz.results86 (by simp [AObj.isNest]) (by simp [AObj.isNest]) (by first|(simp [look];done)|(simp [asN];done)|(intro l hl;simp only [asN];repeat (rw [if_neg (fun e=>by subst e;simp [look] at hl)]))) (by first|(simp [look];done)|(simp [asN];done)|(intro l hl;simp only [asN];repeat (rw [if_neg (fun e=>by subst e;simp [look] at hl)]))) (by kernel_rfl) ?_;intro X hX hP hC aN aO vals hA;refine ⟨_,by simp,hA, ?_⟩;have af:X.P.follows .mixedOrders=true:=(by rw [hP];exact T.mixed);clear aN aO)
 repeat' (first|fail|((first|((with_reducible (first|apply oA|apply oB));exact rfl;intro K hK)|(refine hK _ ?_;clear hK K)|((with_reducible (first|apply oG|apply oH));iterate 3 exact rfl)|((with_reducible apply oI);(iterate 2 exact rfl);intro K hK)|(with_reducible (first|apply wI|apply wJ|apply wK)));try simp only [go_sem,simprocAttr,hR,an,ha,hb,fV,List.length_map,List.map_append,List.map_cons,List.map_nil,rI,iN,List.cons_append,List.nil_append,List.map_take,List.map_drop])|fail|(with_reducible (first|apply oC|apply oJ|exact oK|apply wA|apply wB|apply wC hX hC|apply wD hX hC|apply wE hX hC af|apply wF hX hC af|apply wG|apply wH|apply And.intro))|((with_reducible refine oD ?_ ?_);first|fail|kernel_rfl)|((with_reducible (first|apply oE|apply oF));(iterate 3 exact rfl);all_goals (intro h;first|(exact absurd h (by decide))|((try simp only [go_sem,simprocAttr,hR,an,ha,hb,fV,List.length_map,List.map_append,List.map_cons,List.map_nil,rI,iN,List.cons_append,List.nil_append,List.map_take,List.map_drop] at h);(try with_reducible intro K hK);simp only [go_sem,simprocAttr,hR,an,ha,hb,fV,List.length_map,List.map_append,List.map_cons,List.map_nil,rI,iN,List.cons_append,List.nil_append,List.map_take,List.map_drop])))|((first|((with_reducible apply wL);exact rfl)|((with_reducible apply wM);exact rfl));all_goals (try ((with_reducible intro h);first|(exact absurd h (by decide))|(try simp only [go_sem,simprocAttr,hR,an,ha,hb,fV,List.length_map,List.map_append,List.map_cons,List.map_nil,rI,iN,List.cons_append,List.nil_append,List.map_take,List.map_drop] at h))))|omega|((first|first|(refine ai hX hC hP (mI g hm f x jd hp1) rfl rfl rfl ?_ ?_ ?_ ?_;iterate 3 (focus (simp only [go_sem,simprocAttr,hR,an,ha,hb,fV,List.length_map,List.map_append,List.map_cons,List.map_nil,rI,iN,List.cons_append,List.nil_append,List.map_take,List.map_drop];done)))|(refine az hX hC hP [(10000,16)] (cz outs) rfl rfl rfl ?_ ?_ ?_ ?_ ?_ ?_ ?_ ?_ ?_ ?_ ?_ ?_ ?_ ?_;(focus (simp only [go_sem,simprocAttr,hR,an,ha,hb,fV,List.length_map,List.map_append,List.map_cons,List.map_nil,rI,iN,List.cons_append,List.nil_append,List.map_take,List.map_drop];done));(iterate 12 (focus (simp [go_sem,simprocAttr,hR,an,ha,hb,fV,List.length_map,List.map_append,List.map_cons,List.map_nil,rI,iN,List.cons_append,List.nil_append,List.map_take,List.map_drop];done)));simp only [go_sem,simprocAttr,hR,an,ha,hb,fV,List.length_map,List.map_append,List.map_cons,List.map_nil,rI,iN,List.cons_append,List.nil_append,List.map_take,List.map_drop,List.map_cons,List.map_nil])|(refine aR hX hC hP [(10000,16)] (bY outs ho) rfl rfl rfl ?_ ?_ ?_ ?_ ?_ ?_ rfl rfl ?_ ?_;(focus (simp only [go_sem,simprocAttr,hR,an,ha,hb,fV,List.length_map,List.map_append,List.map_cons,List.map_nil,rI,iN,List.cons_append,List.nil_append,List.map_take,List.map_drop];done));(iterate 6 (focus (simp [go_sem,simprocAttr,hR,an,ha,hb,fV,List.length_map,List.map_append,List.map_cons,List.map_nil,rI,iN,List.cons_append,List.nil_append,List.map_take,List.map_drop];done)));simp only [go_sem,simprocAttr,hR,an,ha,hb,fV,List.length_map,List.map_append,List.map_cons,List.map_nil,rI,iN,List.cons_append,List.nil_append,List.map_take,List.map_drop,List.map_cons,List.map_nil])|refine aa hX hC hP (ic g hm x) rfl rfl rfl (by simp only [go_sem,simprocAttr,hR,an,ha,hb,fV,List.length_map,List.map_append,List.map_cons,List.map_nil,rI,iN,List.cons_append,List.nil_append,List.map_take,List.map_drop]) rfl ?_|refine aa hX hC hP (fE (gN outs) (bp (·.1) g x) hs) rfl rfl rfl (by simp only [go_sem,simprocAttr,hR,an,ha,hb,fV,List.length_map,List.map_append,List.map_cons,List.map_nil,rI,iN,List.cons_append,List.nil_append,List.map_take,List.map_drop]) rfl ?_|(refine ai hX hC hP (eC [vw g,sI f.pl] f.row x jd) rfl rfl rfl ?_ ?_ ?_ ?_;iterate 3 (focus (simp only [go_sem,simprocAttr,hR,an,ha,hb,fV,List.length_map,List.map_append,List.map_cons,List.map_nil,rI,iN,List.cons_append,List.nil_append,List.map_take,List.map_drop];done)))|(refine pe hX hC hP 54 (x4 g ⟨f.row,f.pl++ [x]⟩ x outs LP Ea) rfl rfl rfl ?_ ?_ (by first|exact ⟨_,_,_,rfl,ER⟩|exact ⟨_,_,_,rfl,ES⟩|exact ⟨_,_,_,rfl,ET⟩) rfl (by decide) ?_;(iterate 2 (focus (simp only [go_sem,simprocAttr,hR,an,ha,hb,fV,List.length_map,List.map_append,List.map_cons,List.map_nil,rI,iN,List.cons_append,List.nil_append,List.map_take,List.map_drop];done)));simp only [go_sem,simprocAttr,hR,an,ha,hb,fV,List.length_map,List.map_append,List.map_cons,List.map_nil,rI,iN,List.cons_append,List.nil_append,List.map_take,List.map_drop])|(refine az hX hC hP [(10001,42),(10003,54)] (Ad g f.row (aJ g x outs) (f.pl++ [x]) a b hab dK h0 xm gA) rfl rfl rfl ?_ ?_ ?_ ?_ ?_ ?_ ?_ ?_ ?_ ?_ ?_ ?_ ?_ ?_;(focus (simp only [go_sem,simprocAttr,hR,an,ha,hb,fV,List.length_map,List.map_append,List.map_cons,List.map_nil,rI,iN,List.cons_append,List.nil_append,List.map_take,List.map_drop];done));(iterate 12 (focus (simp [go_sem,simprocAttr,hR,an,ha,hb,fV,List.length_map,List.map_append,List.map_cons,List.map_nil,rI,iN,List.cons_append,List.nil_append,List.map_take,List.map_drop];done)));simp only [go_sem,simprocAttr,hR,an,ha,hb,fV,List.length_map,List.map_append,List.map_cons,List.map_nil,rI,iN,List.cons_append,List.nil_append,List.map_take,List.map_drop,List.map_cons,List.map_nil]));try simp only [go_sem,simprocAttr,hR,an,ha,hb,fV,List.length_map,List.map_append,List.map_cons,List.map_nil,rI,iN,List.cons_append,List.nil_append,List.map_take,List.map_drop])|(intro h))
end Go.Ab
end
section
namespace Go.Ab
open Go.Proofs
attribute [local congr] ACall.congr
set_option maxRecDepth 10000
set_option maxHeartbeats 4000000
def FK (g:Gr) (f:Fr) (k:Nat):List Int:=((List.range k).filter fun x:Nat=>gr g f (x:Int)).map Int.ofNat
def FL (g:Gr) (f:Fr):List Int:=FK g f g.n.toNat
theorem tg (g:Gr) (hl:g.es.length≤1000) (h0:(cr g).1=0) (hm:aU g=true):Spec Tryz.prog 84 (Args [eG g]) [] (.tup [.ptr 10000 0,eN 0]) [(10000, .box [.nil 96, .d (vw g), .nil 3])]:=by
 (refine Spec.fM (C:=T.cfg [] []) (rs:= [.t 2, .t 3]) [(10000,11)] (T.aq _ _) Tryz.func84 rfl rfl Tryz.ntmps84 Tryz.results84 (by simp [AObj.isNest]) (by simp [AObj.isNest]) (by first|(simp [look];done)|(simp [asN];done)|(intro l hl;simp only [asN];repeat (rw [if_neg (fun e=>by subst e;simp [look] at hl)]))) (by first|(simp [look];done)|(simp [asN];done)|(intro l hl;simp only [asN];repeat (rw [if_neg (fun e=>by subst e;simp [look] at hl)]))) (by kernel_rfl) ?_;intro X hX hP hC aN aO vals hA;refine ⟨_,by simp,hA, ?_⟩;have af:X.P.follows .mixedOrders=true:=(by rw [hP];exact T.mixed);clear aN aO)
 repeat' (first|fail|((first|((with_reducible (first|apply oA|apply oB));exact rfl;intro K hK)|(refine hK _ ?_;clear hK K)|((with_reducible (first|apply oG|apply oH));iterate 3 exact rfl)|((with_reducible apply oI);(iterate 2 exact rfl);intro K hK)|(with_reducible (first|apply wI|apply wJ|apply wK)));try simp only [go_sem,simprocAttr,h0])|fail|(with_reducible (first|apply oC|apply oJ|exact oK|apply wA|apply wB|apply wC hX hC|apply wD hX hC|apply wE hX hC af|apply wF hX hC af|apply wG|apply wH|apply And.intro))|((with_reducible refine oD ?_ ?_);first|fail|kernel_rfl)|((with_reducible (first|apply oE|apply oF));(iterate 3 exact rfl);all_goals (intro h;first|(exact absurd h (by decide))|((try simp only [go_sem,simprocAttr,h0] at h);(try with_reducible intro K hK);simp only [go_sem,simprocAttr,h0])))|((first|((with_reducible apply wL);exact rfl)|((with_reducible apply wM);exact rfl));all_goals (try ((with_reducible intro h);first|(exact absurd h (by decide))|(try simp only [go_sem,simprocAttr,h0] at h))))|omega|((first|first|refine aa hX hC hP (j8 g hl) rfl rfl rfl (by simp only [go_sem,simprocAttr,h0]) rfl ?_|refine aa hX hC hP (gy g hm) rfl rfl rfl (by simp only [go_sem,simprocAttr,h0]) rfl ?_);try simp only [go_sem,simprocAttr,h0])|(intro h))
theorem Ae (g:Gr) (hl:g.es.length≤1000) (h0:(cr g).1≠0):Spec Tryz.prog 84 (Args [eG g]) [] (.tup [.d (.sc (.pointer none)),eN 1]) []:=by
 have hb:decide ((cr g).1=0)=false:=decide_eq_false h0
 (refine Spec.intro (C:=T.cfg [] []) (rs:= [.t 2, .t 3]) (T.aq _ _) Tryz.func84 rfl rfl Tryz.ntmps84 Tryz.results84 (by simp [AObj.isNest]) (by simp [AObj.isNest]) (by kernel_rfl) ?_;intro X hX hP hC aN aO vals hA;refine ⟨_,by simp,hA, ?_⟩;have af:X.P.follows .mixedOrders=true:=(by rw [hP];exact T.mixed);clear aN aO)
 repeat' (first|fail|((first|((with_reducible (first|apply oA|apply oB));exact rfl;intro K hK)|(refine hK _ ?_;clear hK K)|((with_reducible (first|apply oG|apply oH));iterate 3 exact rfl)|((with_reducible apply oI);(iterate 2 exact rfl);intro K hK)|(with_reducible (first|apply wI|apply wJ|apply wK)));try simp only [go_sem,simprocAttr,hb])|fail|(with_reducible (first|apply oC|apply oJ|exact oK|apply wA|apply wB|apply wC hX hC|apply wD hX hC|apply wE hX hC af|apply wF hX hC af|apply wG|apply wH|apply And.intro))|((with_reducible refine oD ?_ ?_);first|fail|kernel_rfl)|((with_reducible (first|apply oE|apply oF));(iterate 3 exact rfl);all_goals (intro h;first|(exact absurd h (by decide))|((try simp only [go_sem,simprocAttr,hb] at h);(try with_reducible intro K hK);simp only [go_sem,simprocAttr,hb])))|((first|((with_reducible apply wL);exact rfl)|((with_reducible apply wM);exact rfl));all_goals (try ((with_reducible intro h);first|(exact absurd h (by decide))|(try simp only [go_sem,simprocAttr,hb] at h))))|omega|((first|first|refine aa hX hC hP (j8 g hl) rfl rfl rfl (by simp only [go_sem,simprocAttr,hb]) rfl ?_);try simp only [go_sem,simprocAttr,hb])|(intro h))
end Go.Ab
end
