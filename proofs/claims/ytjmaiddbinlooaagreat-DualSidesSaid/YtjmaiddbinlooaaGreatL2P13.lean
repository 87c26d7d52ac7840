/- A part of the proof. -/
import Derived.Test.YtjmaiddbinlooaaGreatL2P12
set_option linter.unusedSimpArgs false
set_option linter.unusedVariables false
section
namespace Go.Ab
open Go.Proofs
attribute [local congr] ACall.congr
set_option maxRecDepth 10000
def uR (g:Gr):List Bool:=ff g g.n.toNat
theorem kY {g:Gr} :ff g g.n.toNat=uR g:=rfl
def Di (g:Gr):Int:=if bR (fun b:Bool=>b) (uR g)<0 then g.n else bR (fun b:Bool=>b) (uR g)
def uS (g:Gr) (x:Int) (b:Int) (i:Nat):Int:=if hd g i=x∧(uR g).getD (tl g i).toNat false=true then min b (tl g i) else b
def dN (g:Gr) (x:Int) (k:Nat):Int:=(List.range k).foldl (uS g x) g.n
def mN (g:Gr):Nat→List Int→Int→List Int × Int
 |0,way,x=>(way,x)
 |f+1,way,x=>if x∈way then (way,x) else mN g f (way++ [x]) (dN g x g.es.length)
def gx (g:Gr):Gr:=⟨g.n+1,g.es⟩
def nN (g:Gr):List Int × Int:=mN g (g.n.toNat+1) [] (Di g)
def pV (l:List Int) (m k:Nat):List Int:=(List.range k).map fun i=>l.getD ((m+l.length - i) % l.length) 0
def tE (l:List Int):List Int:=pV l (dn l (gL l)).toNat l.length
def kZ (g:Gr):List Int:=if Di g=g.n then [] else tE ((nN g).1.drop (dn (nN g).1 (nN g).2).toNat)
theorem mO {g:Gr} {x:Int} {k:Nat} :dN g x (k+1)=uS g x (dN g x k) k:=by
 simp [dN,List.range_succ]
theorem pJ {g:Gr} (hm:aU g=true) {x:Int} :∀ {k:Nat},k≤g.es.length→0≤dN g x k∧dN g x k≤g.n
 |0,_=>by have:=aY hm;simp [dN];omega
 |k+1,h=>by
  have ih:=pJ hm (x:=x) (k:=k) (by omega)
  obtain ⟨⟨h1,h2⟩,_⟩:=ec hm (k:=k) (by omega)
  rw [mO];unfold uS tl
  split<;>omega
theorem Ah {l:List Int} {m k:Nat} :pV l m (k+1)=pV l m k++ [l.getD ((m+l.length - k) % l.length) 0]:=by
 simp [pV,List.range_succ]
theorem wR {g:Gr} {way:List Int} {a:Int} (h:a∈way):∀f,mN g f way a=(way,a)
 |0=>rfl
 |f+1=>by simp only [mN];rw [if_pos h]
theorem uT:∀ {l:List Int} {x:Int},x∈l→gL l≤x
 |a::r,x,h=>by
  have:∀(r:List Int) (a:Int),r.foldl min a≤a∧∀x∈r,r.foldl min a≤x:=by
   intro r
   induction r with
   |nil=>intro a;exact ⟨Int.le_refl _,by simp⟩
   |cons b r ih=>
    intro a
    obtain ⟨h1,h2⟩:=ih (min a b)
    simp only [List.foldl_cons]
    refine ⟨by omega,fun x hx=> ?_⟩
    rcases List.mem_cons.1 hx with rfl|hx
    ·omega
    ·exact h2 x hx
  obtain ⟨h1,h2⟩:=this r a
  rcases List.mem_cons.1 h with rfl|h
  ·exact h1
  ·exact h2 x h
theorem gq {l:List Int} {m:Nat} (h:m<l.length):l.getD m 0∈l:=by
 rw [List.getD_eq_getElem?_getD,List.getElem?_eq_getElem h];exact List.getElem_mem h
theorem Cm {l:List Int} {m:Nat} (hm:m<l.length) (h1:∀j,j<l.length→l.getD m 0≤l.getD j 0) (h2:∀j,j<m→l.getD m 0<l.getD j 0):dn l (gL l)=m:=by
 have hmin:gL l=l.getD m 0:=by
  have g1:=uT (gq hm)
  obtain ⟨j,hj,e⟩:=List.getElem_of_mem (ij (l:=l) (by omega))
  have g2:=h1 j hj
  rw [List.getD_eq_getElem?_getD (l:=l) (i:=j),List.getElem?_eq_getElem hj,Option.getD_some,e] at g2
  omega
 refine dF (d:=0) hm (fun j hj=> ?_) ?_
 ·have:=h2 j hj
  rw [hmin];simp only [decide_eq_false_iff_not];omega
 ·rw [hmin];simp
theorem dw (g:Gr) (hm:aU g=true):Spec Tryz.prog 119 (Args [eG g]) [] (.d (sI (kZ g))) []:=by
 have hn:=aY hm
 have hlf:(uR g).length=g.n.toNat:=leftK_length
 (refine Spec.intro (C:=T.cfg [] []) (rs:= [.t 2]) (T.aq _ _) Tryz.func119 rfl rfl Tryz.ntmps119 Tryz.results119 (by simp [AObj.isNest]) (by simp [AObj.isNest]) (by kernel_rfl) ?_;intro X hX hP hC aM aN vals hA;refine ⟨_,by simp,hA, ?_⟩;have af:X.P.follows .mixedOrders=true:=(by rw [hP];exact T.mixed);clear aM aN)
 repeat' (first|fail|((first|((with_reducible (first|apply oA|apply oB));exact rfl;intro K hK)|(refine hK _ ?_;clear hK K)|((with_reducible (first|apply oG|apply oH));iterate 3 exact rfl)|((with_reducible apply oI);(iterate 2 exact rfl);intro K hK)|(with_reducible (first|apply wI|apply wJ|apply wK)));try simp only [go_sem,simprocAttr,kY])|fail|(with_reducible (first|apply oC|apply oJ|exact oK|apply wA|apply wB|apply wC hX hC|apply wD hX hC|apply wE hX hC af|apply wF hX hC af|apply wG|apply wH|apply And.intro))|((with_reducible refine oD ?_ ?_);first|fail|kernel_rfl)|((with_reducible (first|apply oE|apply oF));(iterate 3 exact rfl);all_goals (intro h;first|(exact absurd h (by decide))|((try simp only [go_sem,simprocAttr,kY] at h);(try with_reducible intro K hK);simp only [go_sem,simprocAttr,kY])))|((first|((with_reducible apply wL);exact rfl)|((with_reducible apply wM);exact rfl));all_goals (try ((with_reducible intro h);first|(exact absurd h (by decide))|(try simp only [go_sem,simprocAttr,kY] at h))))|omega|((first|first|refine aa hX hC hP (cG g hm) rfl rfl rfl (by simp only [go_sem,simprocAttr,kY]) rfl ?_|(refine ai hX hC hP (bg way x bS) rfl rfl rfl ?_ ?_ ?_ ?_;iterate 3 (focus (simp only [go_sem,simprocAttr,kY];done)))|(refine ai hX hC hP (bg way (a:Int) bS) rfl rfl rfl ?_ ?_ ?_ ?_;iterate 3 (focus (simp only [go_sem,simprocAttr,kY];done))));try simp only [go_sem,simprocAttr,kY])|(intro h))
 refine an (fun k:Nat=>k≤g.n.toNat∧∀j,j<k→(uR g).getD j false=false) (fun k=>⟨[(1, .ptr 1 0),(4,eN k),(3, .d (sB (uR g)))], [(1, .box [eN g.n, .d (sE g.es)])]⟩) (fun k=>g.n.toNat - k) 0 (by simp) ?_ ?_
 ·refine Le.of ?_ ?_<;>simp [go_sem,simprocAttr,uR]
 rintro k ⟨hk,hno⟩
 rcases Nat.lt_or_ge k g.n.toNat with hlt|hge
 ·have hb:decide ((k:Int)<g.n)=true:=decide_eq_true (by omega)
  cases hkb:(uR g).getD k false with
  |false=>
   repeat' (first|fail|((first|((with_reducible (first|apply oA|apply oB));exact rfl;intro K hK)|(refine hK _ ?_;clear hK K)|((with_reducible (first|apply oG|apply oH));iterate 3 exact rfl)|((with_reducible apply oI);(iterate 2 exact rfl);intro K hK)|(with_reducible (first|apply wI|apply wJ|apply wK)));try simp only [go_sem,simprocAttr,hb,hkb,hlf])|fail|(with_reducible (first|apply oC|apply oJ|exact oK|apply wA|apply wB|apply wC hX hC|apply wD hX hC|apply wE hX hC af|apply wF hX hC af|apply wG|apply wH|apply And.intro))|((with_reducible refine oD ?_ ?_);first|fail|kernel_rfl)|((with_reducible (first|apply oE|apply oF));(iterate 3 exact rfl);all_goals (intro h;first|(exact absurd h (by decide))|((try simp only [go_sem,simprocAttr,hb,hkb,hlf] at h);(try with_reducible intro K hK);simp only [go_sem,simprocAttr,hb,hkb,hlf])))|((first|((with_reducible apply wL);exact rfl)|((with_reducible apply wM);exact rfl));all_goals (try ((with_reducible intro h);first|(exact absurd h (by decide))|(try simp only [go_sem,simprocAttr,hb,hkb,hlf] at h))))|omega|((first|first|refine aa hX hC hP (cG g hm) rfl rfl rfl (by simp only [go_sem,simprocAttr,hb,hkb,hlf]) rfl ?_|(refine ai hX hC hP (bg way x bS) rfl rfl rfl ?_ ?_ ?_ ?_;iterate 3 (focus (simp only [go_sem,simprocAttr,hb,hkb,hlf];done)))|(refine ai hX hC hP (bg way (a:Int) bS) rfl rfl rfl ?_ ?_ ?_ ?_;iterate 3 (focus (simp only [go_sem,simprocAttr,hb,hkb,hlf];done))));try simp only [go_sem,simprocAttr,hb,hkb,hlf])|(intro h))
   refine ⟨k+1,⟨by omega,fun j hj=> ?_⟩, ?_,by omega⟩
   ·by_cases hjk:j=k
    ·subst hjk;exact hkb
    ·exact hno j (by omega)
   ·(refine Le.of ?_ ?_<;>simp [go_sem,simprocAttr,hb,hkb,hlf])
  |true=>
   have hst:Di g=k:=by
    have:bR (fun b:Bool=>b) (uR g)=k:=dF (d:=false) (by omega) hno hkb
    unfold Di;rw [this,if_neg (by omega)]
   have hne:decide ((k:Int)=g.n)=false:=decide_eq_false (by omega)
   repeat' (first|fail|((first|((with_reducible (first|apply oA|apply oB));exact rfl;intro K hK)|(refine hK _ ?_;clear hK K)|((with_reducible (first|apply oG|apply oH));iterate 3 exact rfl)|((with_reducible apply oI);(iterate 2 exact rfl);intro K hK)|(with_reducible (first|apply wI|apply wJ|apply wK)));try simp only [go_sem,simprocAttr,hb,hkb,hlf,hne])|fail|(with_reducible (first|apply oC|apply oJ|exact oK|apply wA|apply wB|apply wC hX hC|apply wD hX hC|apply wE hX hC af|apply wF hX hC af|apply wG|apply wH|apply And.intro))|((with_reducible refine oD ?_ ?_);first|fail|kernel_rfl)|((with_reducible (first|apply oE|apply oF));(iterate 3 exact rfl);all_goals (intro h;first|(exact absurd h (by decide))|((try simp only [go_sem,simprocAttr,hb,hkb,hlf,hne] at h);(try with_reducible intro K hK);simp only [go_sem,simprocAttr,hb,hkb,hlf,hne])))|((first|((with_reducible apply wL);exact rfl)|((with_reducible apply wM);exact rfl));all_goals (try ((with_reducible intro h);first|(exact absurd h (by decide))|(try simp only [go_sem,simprocAttr,hb,hkb,hlf,hne] at h))))|omega|((first|first|refine aa hX hC hP (cG g hm) rfl rfl rfl (by simp only [go_sem,simprocAttr,hb,hkb,hlf,hne]) rfl ?_|(refine ai hX hC hP (bg way x bS) rfl rfl rfl ?_ ?_ ?_ ?_;iterate 3 (focus (simp only [go_sem,simprocAttr,hb,hkb,hlf,hne];done)))|(refine ai hX hC hP (bg way (a:Int) bS) rfl rfl rfl ?_ ?_ ?_ ?_;iterate 3 (focus (simp only [go_sem,simprocAttr,hb,hkb,hlf,hne];done))));try simp only [go_sem,simprocAttr,hb,hkb,hlf,hne])|(intro h))
   clear hno hb hne hkb
   (refine jU hX 5 31 39 (by simp only [go_sem,simprocAttr]) rfl (by first|exact .inl rfl|exact .inr rfl) (by decide) ?_;simp only [go_sem,simprocAttr])
   refine an (fun i:List Int × Int=>Way (gx g) i.1∧(0≤i.2∧i.2≤g.n)∧mN g (left (gx g) i.1) i.1 i.2=nN g) (fun i=>⟨[(1, .ptr 1 0),(4,eN i.2),(3, .d (sB (uR g))),(5, .ref 39)], [(1, .box [eN g.n, .d (sE g.es)]),(39, .tip 3 1 (i.1.map rI))]⟩) (fun i=>left (gx g) i.1) ([],(k:Int)) ⟨Way.nil _,by simp only;omega, ?_⟩ ?_ ?_
   ·simp only [nM,nN,gx,hst]
    rw [show (g.n+1).toNat=g.n.toNat+1 from by omega]
   ·refine Le.of ?_ ?_<;>simp [go_sem,simprocAttr]
   rintro ⟨way,x⟩ ⟨wQ,hx,hrun⟩
   simp only at wQ hx hrun ⊢
   have JN:way.length≤65:=by have:=wQ.fuel;simp only [gx] at this;omega
   have bS:way.length≤9223372036854775807:=by omega
   by_cases hmem:x∈way
   ·have hend:=wR (g:=g) hmem (left (gx g) way)
    rw [hrun] at hend
    obtain ⟨m,p9,hm2,_⟩:=dh hmem
    have hneg:decide ((m:Int)<0)=false:=decide_eq_false (by omega)
    obtain ⟨l,Cn⟩:∃l,l=way.drop m:=⟨_,rfl⟩
    have kC:l.length=way.length - m:=by rw [Cn];simp
    have FD:kZ g=tE l:=by
     simp only [kZ,hend,p9,Int.toNat_natCast, ← Cn]
     rw [if_neg (by omega)]
    repeat' (first|fail|((first|((with_reducible (first|apply oA|apply oB));exact rfl;intro K hK)|(refine hK _ ?_;clear hK K)|((with_reducible (first|apply oG|apply oH));iterate 3 exact rfl)|((with_reducible apply oI);(iterate 2 exact rfl);intro K hK)|(with_reducible (first|apply wI|apply wJ|apply wK)));try simp only [go_sem,simprocAttr,p9,hneg, ← List.map_take, ← List.map_drop,List.take_length, ← Cn])|fail|(with_reducible (first|apply oC|apply oJ|exact oK|apply wA|apply wB|apply wC hX hC|apply wD hX hC|apply wE hX hC af|apply wF hX hC af|apply wG|apply wH|apply And.intro))|((with_reducible refine oD ?_ ?_);first|fail|kernel_rfl)|((with_reducible (first|apply oE|apply oF));(iterate 3 exact rfl);all_goals (intro h;first|(exact absurd h (by decide))|((try simp only [go_sem,simprocAttr,p9,hneg, ← List.map_take, ← List.map_drop,List.take_length, ← Cn] at h);(try with_reducible intro K hK);simp only [go_sem,simprocAttr,p9,hneg, ← List.map_take, ← List.map_drop,List.take_length, ← Cn])))|((first|((with_reducible apply wL);exact rfl)|((with_reducible apply wM);exact rfl));all_goals (try ((with_reducible intro h);first|(exact absurd h (by decide))|(try simp only [go_sem,simprocAttr,p9,hneg, ← List.map_take, ← List.map_drop,List.take_length, ← Cn] at h))))|omega|((first|first|refine aa hX hC hP (cG g hm) rfl rfl rfl (by simp only [go_sem,simprocAttr,p9,hneg, ← List.map_take, ← List.map_drop,List.take_length, ← Cn]) rfl ?_|(refine ai hX hC hP (bg way x bS) rfl rfl rfl ?_ ?_ ?_ ?_;iterate 3 (focus (simp only [go_sem,simprocAttr,p9,hneg, ← List.map_take, ← List.map_drop,List.take_length, ← Cn];done)))|(refine ai hX hC hP (bg way (a:Int) bS) rfl rfl rfl ?_ ?_ ?_ ?_;iterate 3 (focus (simp only [go_sem,simprocAttr,p9,hneg, ← List.map_take, ← List.map_drop,List.take_length, ← Cn];done))));try simp only [go_sem,simprocAttr,p9,hneg, ← List.map_take, ← List.map_drop,List.take_length, ← Cn])|(intro h))
    clear hrun wQ hend p9 hneg Cn
    have hl0:0<l.length:=by omega
    have hlm:l.length≤65:=by omega
    refine an (fun i:Nat × Nat=>i.1≤l.length∧i.2<l.length∧(∀j,j<i.1→l.getD i.2 0≤l.getD j 0)∧(∀j,j<i.2→l.getD i.2 0<l.getD j 0)) (fun i=>⟨[(9,eN i.1),(8,eN i.2),(5, .d (sI l))], []⟩) (fun i=>l.length - i.1) (0,0) ⟨by simp,hl0,by simp,by simp⟩ ?_ ?_
    ·refine Le.of ?_ ?_<;>simp [go_sem,simprocAttr]
    rintro ⟨i,q⟩ ⟨hi,hq,hq1,DS⟩
    simp only at hi hq hq1 DS ⊢
    rcases Nat.lt_or_ge i l.length with hil|JO
    ·have hb:decide ((i:Int)<(l.length:Int))=true:=decide_eq_true (by omega)
     repeat' (first|fail|((first|((with_reducible (first|apply oA|apply oB));exact rfl;intro K hK)|(refine hK _ ?_;clear hK K)|((with_reducible (first|apply oG|apply oH));iterate 3 exact rfl)|((with_reducible apply oI);(iterate 2 exact rfl);intro K hK)|(with_reducible (first|apply wI|apply wJ|apply wK)));try simp only [go_sem,simprocAttr,hb])|fail|(with_reducible (first|apply oC|apply oJ|exact oK|apply wA|apply wB|apply wC hX hC|apply wD hX hC|apply wE hX hC af|apply wF hX hC af|apply wG|apply wH|apply And.intro))|((with_reducible refine oD ?_ ?_);first|fail|kernel_rfl)|((with_reducible (first|apply oE|apply oF));(iterate 3 exact rfl);all_goals (intro h;first|(exact absurd h (by decide))|((try simp only [go_sem,simprocAttr,hb] at h);(try with_reducible intro K hK);simp only [go_sem,simprocAttr,hb])))|((first|((with_reducible apply wL);exact rfl)|((with_reducible apply wM);exact rfl));all_goals (try ((with_reducible intro h);first|(exact absurd h (by decide))|(try simp only [go_sem,simprocAttr,hb] at h))))|omega|((first|first|refine aa hX hC hP (cG g hm) rfl rfl rfl (by simp only [go_sem,simprocAttr,hb]) rfl ?_|(refine ai hX hC hP (bg way x bS) rfl rfl rfl ?_ ?_ ?_ ?_;iterate 3 (focus (simp only [go_sem,simprocAttr,hb];done)))|(refine ai hX hC hP (bg way (a:Int) bS) rfl rfl rfl ?_ ?_ ?_ ?_;iterate 3 (focus (simp only [go_sem,simprocAttr,hb];done))));try simp only [go_sem,simprocAttr,hb])|(intro h))
     ·refine ⟨(i+1,i),⟨by simp only;omega,hil,fun j hj=> ?_,fun j hj=> ?_⟩, ?_,by simp only;omega⟩
      ·simp only at hj ⊢
       by_cases hji:j=i
       ·subst hji;exact Int.le_refl _
       ·have:=hq1 j (by omega);omega
      ·simp only at hj ⊢
       have:=hq1 j hj;omega
      ·refine Le.of ?_ ?_<;>simp [go_sem,simprocAttr]
     ·refine ⟨(i+1,q),⟨by simp only;omega,hq,fun j hj=> ?_,DS⟩, ?_,by simp only;omega⟩
      ·simp only at hj ⊢
       by_cases hji:j=i
       ·subst hji;omega
       ·exact hq1 j (by omega)
      ·refine Le.of ?_ ?_<;>simp [go_sem,simprocAttr]
    ·have hb:decide ((i:Int)<(l.length:Int))=false:=decide_eq_false (by omega)
     obtain rfl:i=l.length:=by omega
     have hidx:=Cm hq hq1 DS
     repeat' (first|fail|((first|((with_reducible (first|apply oA|apply oB));exact rfl;intro K hK)|(refine hK _ ?_;clear hK K)|((with_reducible (first|apply oG|apply oH));iterate 3 exact rfl)|((with_reducible apply oI);(iterate 2 exact rfl);intro K hK)|(with_reducible (first|apply wI|apply wJ|apply wK)));try simp only [go_sem,simprocAttr,hb])|fail|(with_reducible (first|apply oC|apply oJ|exact oK|apply wA|apply wB|apply wC hX hC|apply wD hX hC|apply wE hX hC af|apply wF hX hC af|apply wG|apply wH|apply And.intro))|((with_reducible refine oD ?_ ?_);first|fail|kernel_rfl)|((with_reducible (first|apply oE|apply oF));(iterate 3 exact rfl);all_goals (intro h;first|(exact absurd h (by decide))|((try simp only [go_sem,simprocAttr,hb] at h);(try with_reducible intro K hK);simp only [go_sem,simprocAttr,hb])))|((first|((with_reducible apply wL);exact rfl)|((with_reducible apply wM);exact rfl));all_goals (try ((with_reducible intro h);first|(exact absurd h (by decide))|(try simp only [go_sem,simprocAttr,hb] at h))))|omega|((first|first|refine aa hX hC hP (cG g hm) rfl rfl rfl (by simp only [go_sem,simprocAttr,hb]) rfl ?_|(refine ai hX hC hP (bg way x bS) rfl rfl rfl ?_ ?_ ?_ ?_;iterate 3 (focus (simp only [go_sem,simprocAttr,hb];done)))|(refine ai hX hC hP (bg way (a:Int) bS) rfl rfl rfl ?_ ?_ ?_ ?_;iterate 3 (focus (simp only [go_sem,simprocAttr,hb];done))));try simp only [go_sem,simprocAttr,hb])|(intro h))
     clear hi hb JO
     (refine jU hX 10 98 119 (by simp only [go_sem,simprocAttr]) rfl (by first|exact .inl rfl|exact .inr rfl) (by decide) ?_;simp only [go_sem,simprocAttr])
     refine an (fun i:Nat=>i≤l.length) (fun i=>⟨[(5, .d (sI l)),(8,eN q),(11,eN i),(10, .ref 119)], [(119, .tip 3 1 ((pV l q i).map rI))]⟩) (fun i=>l.length - i) 0 (by simp) ?_ ?_
     ·refine Le.of ?_ ?_<;>simp [go_sem,simprocAttr,pV]
     rintro i hi
     have hrl:(pV l q i).length=i:=by simp [pV]
     rcases Nat.lt_or_ge i l.length with hil|JO
     ·have hb:decide ((i:Int)<(l.length:Int))=true:=decide_eq_true (by omega)
      have Db:((q:Int)+(l.length:Int) - (i:Int)).tmod (l.length:Int)=(((q+l.length - i) % l.length:Nat):Int):=by
       rw [show (q:Int)+(l.length:Int) - (i:Int)=((q+l.length - i:Nat):Int) from by omega]
       rw [Int.tmod_eq_emod_of_nonneg (by omega)];rfl
      have hmod:(q+l.length - i) % l.length<l.length:=Nat.mod_lt _ hl0
      repeat' (first|fail|((first|((with_reducible (first|apply oA|apply oB));exact rfl;intro K hK)|(refine hK _ ?_;clear hK K)|((with_reducible (first|apply oG|apply oH));iterate 3 exact rfl)|((with_reducible apply oI);(iterate 2 exact rfl);intro K hK)|(with_reducible (first|apply wI|apply wJ|apply wK)));try simp only [go_sem,simprocAttr,hb,Db])|fail|(with_reducible (first|apply oC|apply oJ|exact oK|apply wA|apply wB|apply wC hX hC|apply wD hX hC|apply wE hX hC af|apply wF hX hC af|apply wG|apply wH|apply And.intro))|((with_reducible refine oD ?_ ?_);first|fail|kernel_rfl)|((with_reducible (first|apply oE|apply oF));(iterate 3 exact rfl);all_goals (intro h;first|(exact absurd h (by decide))|((try simp only [go_sem,simprocAttr,hb,Db] at h);(try with_reducible intro K hK);simp only [go_sem,simprocAttr,hb,Db])))|((first|((with_reducible apply wL);exact rfl)|((with_reducible apply wM);exact rfl));all_goals (try ((with_reducible intro h);first|(exact absurd h (by decide))|(try simp only [go_sem,simprocAttr,hb,Db] at h))))|omega|((first|first|refine aa hX hC hP (cG g hm) rfl rfl rfl (by simp only [go_sem,simprocAttr,hb,Db]) rfl ?_|(refine ai hX hC hP (bg way x bS) rfl rfl rfl ?_ ?_ ?_ ?_;iterate 3 (focus (simp only [go_sem,simprocAttr,hb,Db];done)))|(refine ai hX hC hP (bg way (a:Int) bS) rfl rfl rfl ?_ ?_ ?_ ?_;iterate 3 (focus (simp only [go_sem,simprocAttr,hb,Db];done))));try simp only [go_sem,simprocAttr,hb,Db])|(intro h))
      refine ⟨i+1,by omega, ?_,by omega⟩
      rw [Ah]
      refine Le.of ?_ ?_<;>simp [go_sem,simprocAttr,rI]
     ·have hb:decide ((i:Int)<(l.length:Int))=false:=decide_eq_false (by omega)
      obtain rfl:i=l.length:=by omega
      repeat' (first|fail|((first|((with_reducible (first|apply oA|apply oB));exact rfl;intro K hK)|(refine hK _ ?_;clear hK K)|((with_reducible (first|apply oG|apply oH));iterate 3 exact rfl)|((with_reducible apply oI);(iterate 2 exact rfl);intro K hK)|(with_reducible (first|apply wI|apply wJ|apply wK)));try simp only [go_sem,simprocAttr,hb])|fail|(with_reducible (first|apply oC|apply oJ|exact oK|apply wA|apply wB|apply wC hX hC|apply wD hX hC|apply wE hX hC af|apply wF hX hC af|apply wG|apply wH|apply And.intro))|((with_reducible refine oD ?_ ?_);first|fail|kernel_rfl)|((with_reducible (first|apply oE|apply oF));(iterate 3 exact rfl);all_goals (intro h;first|(exact absurd h (by decide))|((try simp only [go_sem,simprocAttr,hb] at h);(try with_reducible intro K hK);simp only [go_sem,simprocAttr,hb])))|((first|((with_reducible apply wL);exact rfl)|((with_reducible apply wM);exact rfl));all_goals (try ((with_reducible intro h);first|(exact absurd h (by decide))|(try simp only [go_sem,simprocAttr,hb] at h))))|omega|((first|first|refine aa hX hC hP (cG g hm) rfl rfl rfl (by simp only [go_sem,simprocAttr,hb]) rfl ?_|(refine ai hX hC hP (bg way x bS) rfl rfl rfl ?_ ?_ ?_ ?_;iterate 3 (focus (simp only [go_sem,simprocAttr,hb];done)))|(refine ai hX hC hP (bg way (a:Int) bS) rfl rfl rfl ?_ ?_ ?_ ?_;iterate 3 (focus (simp only [go_sem,simprocAttr,hb];done))));try simp only [go_sem,simprocAttr,hb])|(intro h))
      rw [FD,tE,hidx];rfl
   ·have hi:dn way x= -1:=by
     rcases eS (f:=fun y:Int=>decide (x=y)) (l:=way) 0 with ⟨h1,_⟩|⟨q,_,h2,h3,_⟩
     ·exact h1
     ·exact absurd (by rw [of_decide_eq_true h3,List.getD_eq_getElem?_getD,List.getElem?_eq_getElem h2];exact List.getElem_mem h2) hmem
    obtain ⟨a,rfl⟩:∃a:Nat,x=a:=⟨x.toNat,by omega⟩
    have EH:a<(gx g).n.toNat:=by simp only [gx];omega
    repeat' (first|fail|((first|((with_reducible (first|apply oA|apply oB));exact rfl;intro K hK)|(refine hK _ ?_;clear hK K)|((with_reducible (first|apply oG|apply oH));iterate 3 exact rfl)|((with_reducible apply oI);(iterate 2 exact rfl);intro K hK)|(with_reducible (first|apply wI|apply wJ|apply wK)));try simp only [go_sem,simprocAttr,hi])|fail|(with_reducible (first|apply oC|apply oJ|exact oK|apply wA|apply wB|apply wC hX hC|apply wD hX hC|apply wE hX hC af|apply wF hX hC af|apply wG|apply wH|apply And.intro))|((with_reducible refine oD ?_ ?_);first|fail|kernel_rfl)|((with_reducible (first|apply oE|apply oF));(iterate 3 exact rfl);all_goals (intro h;first|(exact absurd h (by decide))|((try simp only [go_sem,simprocAttr,hi] at h);(try with_reducible intro K hK);simp only [go_sem,simprocAttr,hi])))|((first|((with_reducible apply wL);exact rfl)|((with_reducible apply wM);exact rfl));all_goals (try ((with_reducible intro h);first|(exact absurd h (by decide))|(try simp only [go_sem,simprocAttr,hi] at h))))|omega|((first|first|refine aa hX hC hP (cG g hm) rfl rfl rfl (by simp only [go_sem,simprocAttr,hi]) rfl ?_|(refine ai hX hC hP (bg way x bS) rfl rfl rfl ?_ ?_ ?_ ?_;iterate 3 (focus (simp only [go_sem,simprocAttr,hi];done)))|(refine ai hX hC hP (bg way (a:Int) bS) rfl rfl rfl ?_ ?_ ?_ ?_;iterate 3 (focus (simp only [go_sem,simprocAttr,hi];done))));try simp only [go_sem,simprocAttr,hi])|(intro h))
    refine an (fun j:Nat=>j≤g.es.length) (fun j=>⟨[(1, .ptr 1 0),(4,eN a),(3, .d (sB (uR g))),(5, .ref 39),(6,eN (dN g a j)),(7,eN j)], [(1, .box [eN g.n, .d (sE g.es)]),(39, .tip 3 1 ((way++ [(a:Int)]).map rI))]⟩) (fun j=>g.es.length - j) 0 (by simp) ?_ ?_
    ·refine Le.of ?_ ?_<;>simp [go_sem,simprocAttr,rI,dN]
    rintro j hj
    rcases Nat.lt_or_ge j g.es.length with hjl|I4
    ·have ak:decide ((j:Int)<(g.es.length:Int))=true:=decide_eq_true (by omega)
     obtain ⟨⟨D3,nq⟩,_⟩:=ec hm hjl
     have eH:dN g a (j+1)=if (g.es.getD j (0,0)).2=(a:Int)∧(uR g).getD (g.es.getD j (0,0)).1.toNat false=true then min (dN g a j) (g.es.getD j (0,0)).1 else dN g a j:=mO
     repeat' (first|fail|((first|((with_reducible (first|apply oA|apply oB));exact rfl;intro K hK)|(refine hK _ ?_;clear hK K)|((with_reducible (first|apply oG|apply oH));iterate 3 exact rfl)|((with_reducible apply oI);(iterate 2 exact rfl);intro K hK)|(with_reducible (first|apply wI|apply wJ|apply wK)));try simp only [go_sem,simprocAttr,ak,hlf])|fail|(with_reducible (first|apply oC|apply oJ|exact oK|apply wA|apply wB|apply wC hX hC|apply wD hX hC|apply wE hX hC af|apply wF hX hC af|apply wG|apply wH|apply And.intro))|((with_reducible refine oD ?_ ?_);first|fail|kernel_rfl)|((with_reducible (first|apply oE|apply oF));(iterate 3 exact rfl);all_goals (intro h;first|(exact absurd h (by decide))|((try simp only [go_sem,simprocAttr,ak,hlf] at h);(try with_reducible intro K hK);simp only [go_sem,simprocAttr,ak,hlf])))|((first|((with_reducible apply wL);exact rfl)|((with_reducible apply wM);exact rfl));all_goals (try ((with_reducible intro h);first|(exact absurd h (by decide))|(try simp only [go_sem,simprocAttr,ak,hlf] at h))))|omega|((first|first|refine aa hX hC hP (cG g hm) rfl rfl rfl (by simp only [go_sem,simprocAttr,ak,hlf]) rfl ?_|(refine ai hX hC hP (bg way x bS) rfl rfl rfl ?_ ?_ ?_ ?_;iterate 3 (focus (simp only [go_sem,simprocAttr,ak,hlf];done)))|(refine ai hX hC hP (bg way (a:Int) bS) rfl rfl rfl ?_ ?_ ?_ ?_;iterate 3 (focus (simp only [go_sem,simprocAttr,ak,hlf];done))));try simp only [go_sem,simprocAttr,ak,hlf])|(intro h))
     all_goals (first|rw [if_pos ⟨by assumption,by assumption⟩] at eH|rw [if_neg (fun e=>by first|exact absurd e.1 (by assumption)|simp_all)] at eH)
     all_goals (refine ⟨j+1,by omega, ?_,by omega⟩;refine Le.of ?_ ?_<;>simp [go_sem,simprocAttr,eH])
    ·have ak:decide ((j:Int)<(g.es.length:Int))=false:=decide_eq_false (by omega)
     obtain rfl:j=g.es.length:=by omega
     repeat' (first|fail|((first|((with_reducible (first|apply oA|apply oB));exact rfl;intro K hK)|(refine hK _ ?_;clear hK K)|((with_reducible (first|apply oG|apply oH));iterate 3 exact rfl)|((with_reducible apply oI);(iterate 2 exact rfl);intro K hK)|(with_reducible (first|apply wI|apply wJ|apply wK)));try simp only [go_sem,simprocAttr,ak])|fail|(with_reducible (first|apply oC|apply oJ|exact oK|apply wA|apply wB|apply wC hX hC|apply wD hX hC|apply wE hX hC af|apply wF hX hC af|apply wG|apply wH|apply And.intro))|((with_reducible refine oD ?_ ?_);first|fail|kernel_rfl)|((with_reducible (first|apply oE|apply oF));(iterate 3 exact rfl);all_goals (intro h;first|(exact absurd h (by decide))|((try simp only [go_sem,simprocAttr,ak] at h);(try with_reducible intro K hK);simp only [go_sem,simprocAttr,ak])))|((first|((with_reducible apply wL);exact rfl)|((with_reducible apply wM);exact rfl));all_goals (try ((with_reducible intro h);first|(exact absurd h (by decide))|(try simp only [go_sem,simprocAttr,ak] at h))))|omega|((first|first|refine aa hX hC hP (cG g hm) rfl rfl rfl (by simp only [go_sem,simprocAttr,ak]) rfl ?_|(refine ai hX hC hP (bg way x bS) rfl rfl rfl ?_ ?_ ?_ ?_;iterate 3 (focus (simp only [go_sem,simprocAttr,ak];done)))|(refine ai hX hC hP (bg way (a:Int) bS) rfl rfl rfl ?_ ?_ ?_ ?_;iterate 3 (focus (simp only [go_sem,simprocAttr,ak];done))));try simp only [go_sem,simprocAttr,ak])|(intro h))
     refine ⟨(way++ [(a:Int)],dN g a g.es.length),⟨wQ.next EH hmem,pJ hm (Nat.le_refl _), ?_⟩, ?_, ?_⟩
     ·simp only
      rw [← hrun,ig EH hmem]
      simp only [mN]
      rw [if_neg hmem]
     ·refine Le.of ?_ ?_<;>simp [go_sem,simprocAttr]
     ·have:=ig EH hmem;simp only;omega
 ·have hb:decide ((k:Int)<g.n)=false:=decide_eq_false (by omega)
  have hst:Di g=g.n:=by
   have:bR (fun b:Bool=>b) (uR g)= -1:=cA false fun j hj=>hno j (by omega)
   unfold Di;rw [this,if_pos (by omega)]
  have hne:decide ((k:Int)=g.n)=true:=decide_eq_true (by omega)
  repeat' (first|fail|((first|((with_reducible (first|apply oA|apply oB));exact rfl;intro K hK)|(refine hK _ ?_;clear hK K)|((with_reducible (first|apply oG|apply oH));iterate 3 exact rfl)|((with_reducible apply oI);(iterate 2 exact rfl);intro K hK)|(with_reducible (first|apply wI|apply wJ|apply wK)));try simp only [go_sem,simprocAttr,hb,hne])|fail|(with_reducible (first|apply oC|apply oJ|exact oK|apply wA|apply wB|apply wC hX hC|apply wD hX hC|apply wE hX hC af|apply wF hX hC af|apply wG|apply wH|apply And.intro))|((with_reducible refine oD ?_ ?_);first|fail|kernel_rfl)|((with_reducible (first|apply oE|apply oF));(iterate 3 exact rfl);all_goals (intro h;first|(exact absurd h (by decide))|((try simp only [go_sem,simprocAttr,hb,hne] at h);(try with_reducible intro K hK);simp only [go_sem,simprocAttr,hb,hne])))|((first|((with_reducible apply wL);exact rfl)|((with_reducible apply wM);exact rfl));all_goals (try ((with_reducible intro h);first|(exact absurd h (by decide))|(try simp only [go_sem,simprocAttr,hb,hne] at h))))|omega|((first|first|refine aa hX hC hP (cG g hm) rfl rfl rfl (by simp only [go_sem,simprocAttr,hb,hne]) rfl ?_|(refine ai hX hC hP (bg way x bS) rfl rfl rfl ?_ ?_ ?_ ?_;iterate 3 (focus (simp only [go_sem,simprocAttr,hb,hne];done)))|(refine ai hX hC hP (bg way (a:Int) bS) rfl rfl rfl ?_ ?_ ?_ ?_;iterate 3 (focus (simp only [go_sem,simprocAttr,hb,hne];done))));try simp only [go_sem,simprocAttr,hb,hne])|(intro h))
  simp only [kZ];rw [if_pos hst];rfl
end Go.Ab
end
section
namespace Go.Ab
open Go.Proofs
attribute [local congr] ACall.congr
set_option maxRecDepth 10000
def fM (g:Gr):Int × Int × List Int:=gF g (kZ g) (bI (·.2) g)
theorem wS {l:List Edge} {k:Nat} {x:Edge} :x∈l.take k↔∃j,j<k∧j<l.length∧l.getD j (0,0)=x:=by
 rw [List.mem_iff_getElem?]
 constructor
 ·rintro ⟨j,hj⟩
  rw [List.getElem?_take] at hj
  split at hj
  ·exact ⟨j,by assumption,(List.getElem?_eq_some_iff.1 hj).1,by rw [List.getD_eq_getElem?_getD,hj];rfl⟩
  ·cases hj
 ·rintro ⟨j,h1,h2,h3⟩
  refine ⟨j, ?_⟩
  rw [List.getElem?_take,if_pos h1,List.getElem?_eq_getElem h2]
  rw [List.getD_eq_getElem?_getD,List.getElem?_eq_getElem h2] at h3
  exact congrArg some h3
theorem sR (g:Gr) (hl0:g.es.length≤1000):Spec Tryz.prog 99 (Args [eG g]) [] (.tup [eN (fM g).1,eN (fM g).2.1, .d (sI (fM g).2.2)]) []:=by
 have hl:g.es.length≤9223372036854775807:=by omega
 (refine Spec.intro (C:=T.cfg [] []) (rs:= [.t 2, .t 3, .t 4]) (T.aq _ _) Tryz.func99 rfl rfl Tryz.ntmps99 Tryz.results99 (by simp [AObj.isNest]) (by simp [AObj.isNest]) (by kernel_rfl) ?_;intro X hX hP hC aM aN vals hA;refine ⟨_,by simp,hA, ?_⟩;have af:X.P.follows .mixedOrders=true:=(by rw [hP];exact T.mixed);clear aM aN)
 cases hm:aU g with
 |false=>
  repeat' (first|fail|((first|((with_reducible (first|apply oA|apply oB));exact rfl;intro K hK)|(refine hK _ ?_;clear hK K)|((with_reducible (first|apply oG|apply oH));iterate 3 exact rfl)|((with_reducible apply oI);(iterate 2 exact rfl);intro K hK)|(with_reducible (first|apply wI|apply wJ|apply wK)));try simp only [go_sem,simprocAttr,hm])|fail|(with_reducible (first|apply oC|apply oJ|exact oK|apply wA|apply wB|apply wC hX hC|apply wD hX hC|apply wE hX hC af|apply wF hX hC af|apply wG|apply wH|apply And.intro))|((with_reducible refine oD ?_ ?_);first|fail|kernel_rfl)|((with_reducible (first|apply oE|apply oF));(iterate 3 exact rfl);all_goals (intro h;first|(exact absurd h (by decide))|((try simp only [go_sem,simprocAttr,hm] at h);(try with_reducible intro K hK);simp only [go_sem,simprocAttr,hm])))|((first|((with_reducible apply wL);exact rfl)|((with_reducible apply wM);exact rfl));all_goals (try ((with_reducible intro h);first|(exact absurd h (by decide))|(try simp only [go_sem,simprocAttr,hm] at h))))|omega|((first|first|refine aa hX hC hP (cJ g hl) rfl rfl rfl (by simp only [go_sem,simprocAttr,hm]) rfl ?_|refine aa hX hC hP (dw g hm) rfl rfl rfl (by simp only [go_sem,simprocAttr,hm]) rfl ?_|refine aa hX hC hP (cu g true hl0 hn0) rfl rfl rfl (by simp only [go_sem,simprocAttr,hm]) rfl ?_);try simp only [go_sem,simprocAttr,hm])|(intro h))
  all_goals simp [fM,gF,hm]
 |true=>
 have hn:=aY hm
 have hn0:0≤g.n∧g.n≤1000:=by omega
 repeat' (first|fail|((first|((with_reducible (first|apply oA|apply oB));exact rfl;intro K hK)|(refine hK _ ?_;clear hK K)|((with_reducible (first|apply oG|apply oH));iterate 3 exact rfl)|((with_reducible apply oI);(iterate 2 exact rfl);intro K hK)|(with_reducible (first|apply wI|apply wJ|apply wK)));try simp only [go_sem,simprocAttr,hm])|fail|(with_reducible (first|apply oC|apply oJ|exact oK|apply wA|apply wB|apply wC hX hC|apply wD hX hC|apply wE hX hC af|apply wF hX hC af|apply wG|apply wH|apply And.intro))|((with_reducible refine oD ?_ ?_);first|fail|kernel_rfl)|((with_reducible (first|apply oE|apply oF));(iterate 3 exact rfl);all_goals (intro h;first|(exact absurd h (by decide))|((try simp only [go_sem,simprocAttr,hm] at h);(try with_reducible intro K hK);simp only [go_sem,simprocAttr,hm])))|((first|((with_reducible apply wL);exact rfl)|((with_reducible apply wM);exact rfl));all_goals (try ((with_reducible intro h);first|(exact absurd h (by decide))|(try simp only [go_sem,simprocAttr,hm] at h))))|omega|((first|first|refine aa hX hC hP (cJ g hl) rfl rfl rfl (by simp only [go_sem,simprocAttr,hm]) rfl ?_|refine aa hX hC hP (dw g hm) rfl rfl rfl (by simp only [go_sem,simprocAttr,hm]) rfl ?_|refine aa hX hC hP (cu g true hl0 hn0) rfl rfl rfl (by simp only [go_sem,simprocAttr,hm]) rfl ?_);try simp only [go_sem,simprocAttr,hm])|(intro h))
 refine an (fun k:Nat=>k≤g.es.length∧∀j,j<k→decide ((g.es.getD j (0,0)).1=(g.es.getD j (0,0)).2)=false) (fun k=>⟨[(5,eN k),(1, .ptr 1 0)], [(1, .box [eN g.n, .d (sE g.es)])]⟩) (fun k=>g.es.length - k) 0 (by simp) ?_ ?_
 ·(refine Le.of ?_ ?_<;>simp [go_sem,simprocAttr,hm])
 rintro k ⟨hk,hno⟩
 rcases Nat.lt_or_ge k g.es.length with hlt|hge
 ·have ak:decide ((k:Int)<(g.es.length:Int))=true:=decide_eq_true (by omega)
  repeat' (first|fail|((first|((with_reducible (first|apply oA|apply oB));exact rfl;intro K hK)|(refine hK _ ?_;clear hK K)|((with_reducible (first|apply oG|apply oH));iterate 3 exact rfl)|((with_reducible apply oI);(iterate 2 exact rfl);intro K hK)|(with_reducible (first|apply wI|apply wJ|apply wK)));try simp only [go_sem,simprocAttr,hm,ak])|fail|(with_reducible (first|apply oC|apply oJ|exact oK|apply wA|apply wB|apply wC hX hC|apply wD hX hC|apply wE hX hC af|apply wF hX hC af|apply wG|apply wH|apply And.intro))|((with_reducible refine oD ?_ ?_);first|fail|kernel_rfl)|((with_reducible (first|apply oE|apply oF));(iterate 3 exact rfl);all_goals (intro h;first|(exact absurd h (by decide))|((try simp only [go_sem,simprocAttr,hm,ak] at h);(try with_reducible intro K hK);simp only [go_sem,simprocAttr,hm,ak])))|((first|((with_reducible apply wL);exact rfl)|((with_reducible apply wM);exact rfl));all_goals (try ((with_reducible intro h);first|(exact absurd h (by decide))|(try simp only [go_sem,simprocAttr,hm,ak] at h))))|omega|((first|first|refine aa hX hC hP (cJ g hl) rfl rfl rfl (by simp only [go_sem,simprocAttr,hm,ak]) rfl ?_|refine aa hX hC hP (dw g hm) rfl rfl rfl (by simp only [go_sem,simprocAttr,hm,ak]) rfl ?_|refine aa hX hC hP (cu g true hl0 hn0) rfl rfl rfl (by simp only [go_sem,simprocAttr,hm,ak]) rfl ?_);try simp only [go_sem,simprocAttr,hm,ak])|(intro h))
  any_goals (
   have hlo:ju g=(k:Int):=dF (d:=(0,0)) hlt hno (decide_eq_true h)
   have hc:fM g=(13,ju g, []):=by
    simp only [fM,gF];rw [if_neg (by simp [hm]),if_pos (by omega)]
   rw [hc]<;>first|rfl|exact hlo.symm)
  refine ⟨k+1,⟨by omega,fun j hj=> ?_⟩, ?_,by omega⟩
  ·by_cases hjk:j=k
   ·subst hjk;exact h
   ·simpa using hno j (by omega)
  ·(refine Le.of ?_ ?_<;>simp [go_sem,simprocAttr,hm,ak])
 ·have ak:decide ((k:Int)<(g.es.length:Int))=false:=decide_eq_false (by omega)
  have hlo:¬0≤ju g:=by
   have:ju g= -1:=cA (0,0) fun j hj=>hno j (by omega)
   omega
  repeat' (first|fail|((first|((with_reducible (first|apply oA|apply oB));exact rfl;intro K hK)|(refine hK _ ?_;clear hK K)|((with_reducible (first|apply oG|apply oH));iterate 3 exact rfl)|((with_reducible apply oI);(iterate 2 exact rfl);intro K hK)|(with_reducible (first|apply wI|apply wJ|apply wK)));try simp only [go_sem,simprocAttr,hm,ak])|fail|(with_reducible (first|apply oC|apply oJ|exact oK|apply wA|apply wB|apply wC hX hC|apply wD hX hC|apply wE hX hC af|apply wF hX hC af|apply wG|apply wH|apply And.intro))|((with_reducible refine oD ?_ ?_);first|fail|kernel_rfl)|((with_reducible (first|apply oE|apply oF));(iterate 3 exact rfl);all_goals (intro h;first|(exact absurd h (by decide))|((try simp only [go_sem,simprocAttr,hm,ak] at h);(try with_reducible intro K hK);simp only [go_sem,simprocAttr,hm,ak])))|((first|((with_reducible apply wL);exact rfl)|((with_reducible apply wM);exact rfl));all_goals (try ((with_reducible intro h);first|(exact absurd h (by decide))|(try simp only [go_sem,simprocAttr,hm,ak] at h))))|omega|((first|first|refine aa hX hC hP (cJ g hl) rfl rfl rfl (by simp only [go_sem,simprocAttr,hm,ak]) rfl ?_|refine aa hX hC hP (dw g hm) rfl rfl rfl (by simp only [go_sem,simprocAttr,hm,ak]) rfl ?_|refine aa hX hC hP (cu g true hl0 hn0) rfl rfl rfl (by simp only [go_sem,simprocAttr,hm,ak]) rfl ?_);try simp only [go_sem,simprocAttr,hm,ak])|(intro h))
  clear hno ak hk hge
  refine an (fun k:Nat=>k≤g.es.length∧∀j,j<k→mM g j=false) (fun k=>⟨[(6,eN k),(1, .ptr 1 0)], [(1, .box [eN g.n, .d (sE g.es)])]⟩) (fun k=>g.es.length - k) 0 (by simp) ?_ ?_
  ·(refine Le.of ?_ ?_<;>simp [go_sem,simprocAttr])
  rintro k ⟨hk,FE⟩
  rcases Nat.lt_or_ge k g.es.length with hlt|hge
  ·have ak:decide ((k:Int)<(g.es.length:Int))=true:=decide_eq_true (by omega)
   repeat' (first|fail|((first|((with_reducible (first|apply oA|apply oB));exact rfl;intro K hK)|(refine hK _ ?_;clear hK K)|((with_reducible (first|apply oG|apply oH));iterate 3 exact rfl)|((with_reducible apply oI);(iterate 2 exact rfl);intro K hK)|(with_reducible (first|apply wI|apply wJ|apply wK)));try simp only [go_sem,simprocAttr,hm,ak])|fail|(with_reducible (first|apply oC|apply oJ|exact oK|apply wA|apply wB|apply wC hX hC|apply wD hX hC|apply wE hX hC af|apply wF hX hC af|apply wG|apply wH|apply And.intro))|((with_reducible refine oD ?_ ?_);first|fail|kernel_rfl)|((with_reducible (first|apply oE|apply oF));(iterate 3 exact rfl);all_goals (intro h;first|(exact absurd h (by decide))|((try simp only [go_sem,simprocAttr,hm,ak] at h);(try with_reducible intro K hK);simp only [go_sem,simprocAttr,hm,ak])))|((first|((with_reducible apply wL);exact rfl)|((with_reducible apply wM);exact rfl));all_goals (try ((with_reducible intro h);first|(exact absurd h (by decide))|(try simp only [go_sem,simprocAttr,hm,ak] at h))))|omega|((first|first|refine aa hX hC hP (cJ g hl) rfl rfl rfl (by simp only [go_sem,simprocAttr,hm,ak]) rfl ?_|refine aa hX hC hP (dw g hm) rfl rfl rfl (by simp only [go_sem,simprocAttr,hm,ak]) rfl ?_|refine aa hX hC hP (cu g true hl0 hn0) rfl rfl rfl (by simp only [go_sem,simprocAttr,hm,ak]) rfl ?_);try simp only [go_sem,simprocAttr,hm,ak])|(intro h))
   refine an (fun q:Nat=>q≤k∧∀j,j<q→¬g.es.getD j (0,0)=g.es.getD k (0,0)) (fun q=>⟨[(6,eN k),(7,eN q),(1, .ptr 1 0)], [(1, .box [eN g.n, .d (sE g.es)])]⟩) (fun q=>k - q) 0 (by simp) ?_ ?_
   ·(refine Le.of ?_ ?_<;>simp [go_sem,simprocAttr,hm,ak])
   rintro q ⟨hq,hne⟩
   rcases Nat.lt_or_ge q k with MT|MT
   ·have aX:decide ((q:Int)<(k:Int))=true:=decide_eq_true (by omega)
    repeat' (first|fail|((first|((with_reducible (first|apply oA|apply oB));exact rfl;intro K hK)|(refine hK _ ?_;clear hK K)|((with_reducible (first|apply oG|apply oH));iterate 3 exact rfl)|((with_reducible apply oI);(iterate 2 exact rfl);intro K hK)|(with_reducible (first|apply wI|apply wJ|apply wK)));try simp only [go_sem,simprocAttr,aX,jk])|fail|(with_reducible (first|apply oC|apply oJ|exact oK|apply wA|apply wB|apply wC hX hC|apply wD hX hC|apply wE hX hC af|apply wF hX hC af|apply wG|apply wH|apply And.intro))|((with_reducible refine oD ?_ ?_);first|fail|kernel_rfl)|((with_reducible (first|apply oE|apply oF));(iterate 3 exact rfl);all_goals (intro h;first|(exact absurd h (by decide))|((try simp only [go_sem,simprocAttr,aX,jk] at h);(try with_reducible intro K hK);simp only [go_sem,simprocAttr,aX,jk])))|((first|((with_reducible apply wL);exact rfl)|((with_reducible apply wM);exact rfl));all_goals (try ((with_reducible intro h);first|(exact absurd h (by decide))|(try simp only [go_sem,simprocAttr,aX,jk] at h))))|omega|((first|first|refine aa hX hC hP (cJ g hl) rfl rfl rfl (by simp only [go_sem,simprocAttr,aX,jk]) rfl ?_|refine aa hX hC hP (dw g hm) rfl rfl rfl (by simp only [go_sem,simprocAttr,aX,jk]) rfl ?_|refine aa hX hC hP (cu g true hl0 hn0) rfl rfl rfl (by simp only [go_sem,simprocAttr,aX,jk]) rfl ?_);try simp only [go_sem,simprocAttr,aX,jk])|(intro h))
    any_goals (
     have Ck:mM g k=true:=decide_eq_true (wS.2 ⟨q,MT,by omega,h⟩)
     have LN:eV g=(k:Int):=dF (d:=0) (by simpa using hlt) (fun j hj=>by rw [fR (by omega)];exact FE j hj) (by rw [fR hlt];exact Ck)
     have hc:fM g=(14,eV g, []):=by
      simp only [fM,gF];rw [if_neg (by simp [hm]),if_neg hlo,if_pos (by omega)]
     rw [hc]<;>first|rfl|exact LN.symm)
    refine ⟨q+1,⟨by omega,fun j hj=> ?_⟩, ?_,by omega⟩
    ·by_cases hjk:j=q
     ·subst hjk;exact h
     ·exact hne j (by omega)
    ·refine Le.of ?_ ?_<;>simp [go_sem,simprocAttr]
   ·have aX:decide ((q:Int)<(k:Int))=false:=decide_eq_false (by omega)
    repeat' (first|fail|((first|((with_reducible (first|apply oA|apply oB));exact rfl;intro K hK)|(refine hK _ ?_;clear hK K)|((with_reducible (first|apply oG|apply oH));iterate 3 exact rfl)|((with_reducible apply oI);(iterate 2 exact rfl);intro K hK)|(with_reducible (first|apply wI|apply wJ|apply wK)));try simp only [go_sem,simprocAttr,aX])|fail|(with_reducible (first|apply oC|apply oJ|exact oK|apply wA|apply wB|apply wC hX hC|apply wD hX hC|apply wE hX hC af|apply wF hX hC af|apply wG|apply wH|apply And.intro))|((with_reducible refine oD ?_ ?_);first|fail|kernel_rfl)|((with_reducible (first|apply oE|apply oF));(iterate 3 exact rfl);all_goals (intro h;first|(exact absurd h (by decide))|((try simp only [go_sem,simprocAttr,aX] at h);(try with_reducible intro K hK);simp only [go_sem,simprocAttr,aX])))|((first|((with_reducible apply wL);exact rfl)|((with_reducible apply wM);exact rfl));all_goals (try ((with_reducible intro h);first|(exact absurd h (by decide))|(try simp only [go_sem,simprocAttr,aX] at h))))|omega|((first|first|refine aa hX hC hP (cJ g hl) rfl rfl rfl (by simp only [go_sem,simprocAttr,aX]) rfl ?_|refine aa hX hC hP (dw g hm) rfl rfl rfl (by simp only [go_sem,simprocAttr,aX]) rfl ?_|refine aa hX hC hP (cu g true hl0 hn0) rfl rfl rfl (by simp only [go_sem,simprocAttr,aX]) rfl ?_);try simp only [go_sem,simprocAttr,aX])|(intro h))
    refine ⟨k+1,⟨by omega,fun j hj=> ?_⟩, ?_,by omega⟩
    ·by_cases hjk:j=k
     ·subst hjk
      refine decide_eq_false fun h=> ?_
      obtain ⟨i,h1,_,h3⟩:=wS.1 h
      exact hne i (by omega) h3
     ·exact FE j (by omega)
    ·(refine Le.of ?_ ?_<;>simp [go_sem,simprocAttr,aX])
  ·have ak:decide ((k:Int)<(g.es.length:Int))=false:=decide_eq_false (by omega)
   have Ck:¬0≤eV g:=by
    have:eV g= -1:=cA 0 fun j hj=>by
     rw [List.length_range] at hj
     rw [fR hj];exact FE j (by omega)
    omega
   repeat' (first|fail|((first|((with_reducible (first|apply oA|apply oB));exact rfl;intro K hK)|(refine hK _ ?_;clear hK K)|((with_reducible (first|apply oG|apply oH));iterate 3 exact rfl)|((with_reducible apply oI);(iterate 2 exact rfl);intro K hK)|(with_reducible (first|apply wI|apply wJ|apply wK)));try simp only [go_sem,simprocAttr,hm,ak])|fail|(with_reducible (first|apply oC|apply oJ|exact oK|apply wA|apply wB|apply wC hX hC|apply wD hX hC|apply wE hX hC af|apply wF hX hC af|apply wG|apply wH|apply And.intro))|((with_reducible refine oD ?_ ?_);first|fail|kernel_rfl)|((with_reducible (first|apply oE|apply oF));(iterate 3 exact rfl);all_goals (intro h;first|(exact absurd h (by decide))|((try simp only [go_sem,simprocAttr,hm,ak] at h);(try with_reducible intro K hK);simp only [go_sem,simprocAttr,hm,ak])))|((first|((with_reducible apply wL);exact rfl)|((with_reducible apply wM);exact rfl));all_goals (try ((with_reducible intro h);first|(exact absurd h (by decide))|(try simp only [go_sem,simprocAttr,hm,ak] at h))))|omega|((first|first|refine aa hX hC hP (cJ g hl) rfl rfl rfl (by simp only [go_sem,simprocAttr,hm,ak]) rfl ?_|refine aa hX hC hP (dw g hm) rfl rfl rfl (by simp only [go_sem,simprocAttr,hm,ak]) rfl ?_|refine aa hX hC hP (cu g true hl0 hn0) rfl rfl rfl (by simp only [go_sem,simprocAttr,hm,ak]) rfl ?_);try simp only [go_sem,simprocAttr,hm,ak])|(intro h))
   all_goals (
    have hc:fM g=if 0<(kZ g).length then (15,0,kZ g) else if 1<(bI (j0 false) g).length then (16,0,(bI (j0 false) g).take 2) else (0,0, []):=by
     show gF g (kZ g) (bI (j0 false) g)=_
     simp only [gF];rw [if_neg (by simp [hm]),if_neg hlo,if_neg Ck]
    first|rw [if_pos (by omega)] at hc|(rw [if_neg (by omega)] at hc;first|rw [if_pos (by omega)] at hc|rw [if_neg (by omega)] at hc)
    rw [hc]<;>first|rfl|simp only [List.map_take])
end Go.Ab
end
section
namespace Go.Ab
def Ord (g:Gr) (out:List Int):Prop:=∀p,p<out.length→∀i,i<g.es.length→hd g i=out.getD p 0→tl g i∈out.take p
theorem eo {l r:List Int} {p:Nat} (h:p<l.length):(l++r).getD p 0=l.getD p 0:=by
 rw [List.getD_eq_getElem?_getD,List.getD_eq_getElem?_getD,List.getElem?_append_left h]
theorem Ord.next {g:Gr} {out:List Int} (h:Ord g out) {x:Nat} (hb:∀i,i<g.es.length→hd g i=x→tl g i∈out):Ord g (out++ [(x:Int)]):=by
 intro p hp i hi hh
 rw [List.length_append,List.length_singleton] at hp
 by_cases gv:p<out.length
 ·rw [eo gv] at hh
  have:=h p gv i hi hh
  rw [List.take_append_of_le_length (by omega)]
  exact this
 ·have hpe:p=out.length:=by omega
  subst hpe
  rw [List.getD_eq_getElem?_getD,List.getElem?_append_right (by omega)] at hh
  simp at hh
  rw [List.take_append_of_le_length (by omega),List.take_of_length_le (by omega)]
  exact hb i hi hh
theorem rJ {g:Gr} (hm:aU g=true):∀f out,ee g out→Ord g out→left g out≤f→ee g (sP g f out)∧Ord g (sP g f out)∧dn (cz g (sP g f out)) 0<0
 |f,out,hP,hO,hl=>by
  rcases I3 (g:=g) out with hx|⟨x,hx,EG,hw⟩
  ·rw [wP (by omega)];exact ⟨hP,hO,by omega⟩
  ·obtain ⟨MU,_,hb⟩:=hP.next hm EG hw
   have hn:=tu hP MU
   cases f with
   |zero=>omega
   |succ f=>
    have:=rJ hm f (out++ [(x:Int)]) MU (hO.next hb) (by omega)
    simp only [sP,hx]
    rw [if_neg (by omega)]
    exact this
theorem fS {g:Gr} (hm:aU g=true):ee g (aI g)∧Ord g (aI g)∧dn (cz g (aI g)) 0<0:=
 rJ hm _ _ (ee.nil g) (fun p hp=>by simp at hp) (by rw [nM];exact Nat.le_refl _)
theorem oV {g:Gr} (hm:aU g=true) {y:Nat} (hy:y<g.n.toNat):0<wt g (aI g) y↔(y:Int)∉aI g:=by
 obtain ⟨_,_,hi⟩:=fS hm
 constructor
 ·intro h hin;simp [wt,hin] at h
 ·intro h
  have h0:wt g (aI g) y≠0:=by
   intro e
   rcases eS (f:=fun y:Int=>decide (0=y)) (l:=cz g (aI g)) 0 with ⟨_,h2⟩|⟨k,h1,_⟩
   ·have:=h2 _ (List.mem_of_getElem? (jW hy))
    rw [e] at this;simp at this
   ·have:dn (cz g (aI g)) 0=k:=h1
    omega
  have:0≤wt g (aI g) y:=by simp only [wt,h,if_false];omega
  omega
theorem rK {g:Gr} {l:List Bool} {j y:Nat} (h:y<g.n.toNat):(ek g l j).getD y false=(List.range j).any fun i=>decide (hd g i=(y:Int))&&(l.getD (tl g i).toNat false&&l.getD (hd g i).toNat false):=by
 simp [ek,List.getD_eq_getElem?_getD,List.getElem?_range h]
theorem rL {g:Gr} (hm:aU g=true):∀k y,y<g.n.toNat→(y:Int)∉aI g→(ff g k).getD y false=true
 |0,y,hy,_=>by simp [ff,kX,List.getD_eq_getElem?_getD,List.getElem?_range hy];omega
 |k+1,y,hy,h=>by
  have hw:=(oV hm hy).2 h
  simp only [wt,h,if_false] at hw
  obtain ⟨i,hi,hp⟩:=List.countP_pos_iff.1 (Int.natCast_pos.1 hw)
  simp only [Bool.and_eq_true,decide_eq_true_eq,Bool.not_eq_true',decide_eq_false_iff_not] at hp
  have hil:=List.mem_range.1 hi
  obtain ⟨⟨h1,h2⟩,_⟩:=ec hm hil
  have ht:(g.es.getD i (0,0)).1=tl g i:=rfl
  rw [ht] at h1 h2
  have e:((tl g i).toNat:Int)=tl g i:=by omega
  have g1:=rL hm k (tl g i).toNat (by omega) (by rw [e];exact hp.2)
  have g2:=rL hm k y hy h
  show (ek g (ff g k) g.es.length).getD y false=true
  rw [rK hy,List.any_eq_true]
  refine ⟨i,hi, ?_⟩
  rw [hp.1,Int.toNat_natCast,g1,g2];simp
theorem yU {g:Gr} (hm:aU g=true):∀k p,p<k→p<(aI g).length→(ff g k).getD ((aI g).getD p 0).toNat false=false
 |0,p,h,_=>by omega
 |k+1,p,h,hp=>by
  obtain ⟨hP,hO,_⟩:=fS hm
  have hr:=hP.lo _ (gq hp)
  obtain ⟨y,hy⟩:∃y:Nat,(aI g).getD p 0=y:=⟨((aI g).getD p 0).toNat,by omega⟩
  have N2:y<g.n.toNat:=by omega
  rw [hy,Int.toNat_natCast]
  show (ek g (ff g k) g.es.length).getD y false=false
  rw [rK N2,List.any_eq_false]
  intro i hi
  have hil:=List.mem_range.1 hi
  simp only [Bool.and_eq_true,decide_eq_true_eq]
  rintro ⟨h1,h2,_⟩
  have ht:=hO p hp i hil (by rw [h1,hy])
  rw [List.mem_iff_getElem?] at ht
  obtain ⟨q,hq⟩:=ht
  rw [List.getElem?_take] at hq
  split at hq
  ·rename_i N3
   have:=yU hm k q (by omega) (by omega)
   rw [List.getD_eq_getElem?_getD (l:=aI g),hq] at this
   rw [Option.getD_some,h2] at this
   cases this
  ·cases hq
theorem Co {g:Gr} (hm:aU g=true) {y:Nat} (hy:y<g.n.toNat):(uR g).getD y false=true↔(y:Int)∉aI g:=by
 constructor
 ·intro h hin
  obtain ⟨hP,_,_⟩:=fS hm
  obtain ⟨p,hp,e⟩:=List.getElem_of_mem hin
  have hl:=hP.fuel
  have:=yU hm g.n.toNat p (by omega) hp
  rw [List.getD_eq_getElem?_getD (l:=aI g),List.getElem?_eq_getElem hp,Option.getD_some,e,Int.toNat_natCast] at this
  have h2:(ff g g.n.toNat).getD y false=true:=h
  rw [this] at h2;cases h2
 ·intro h;exact rL hm _ y hy h
theorem Cp {g:Gr} (hm:aU g=true) {y:Nat} (hy:y<g.n.toNat):(uR g).getD y false=decide (0<(cz g (aI g)).getD y 0):=by
 rw [kU hy,Bool.eq_iff_iff,Co hm hy,decide_eq_true_eq,oV hm hy]
theorem start_eq {g:Gr} (hm:aU g=true):(bR (fun n=>decide (0<n)) (cz g (aI g))= -1∧Di g=g.n)∨∃a:Nat,a<g.n.toNat∧bR (fun n=>decide (0<n)) (cz g (aI g))=a∧Di g=a∧(a:Int)∉aI g:=by
 have hlf:(uR g).length=g.n.toNat:=leftK_length
 rcases eS (f:=fun n:Int=>decide (0<n)) (l:=cz g (aI g)) 0 with ⟨h1,h2⟩|⟨k,h1,h2,h3,h4⟩
 ·refine .inl ⟨h1, ?_⟩
  have:bR (fun b:Bool=>b) (uR g)= -1:=cA false fun j hj=>by
   rw [hlf] at hj
   rw [Cp hm hj]
   exact h2 _ (by rw [List.getD_eq_getElem?_getD,jW hj];exact List.mem_of_getElem? (jW hj))
  unfold Di;rw [this,if_pos (by omega)]
 ·rw [wts_length] at h2
  refine .inr ⟨k,h2,h1, ?_, ?_⟩
  ·have:bR (fun b:Bool=>b) (uR g)=k:=dF (d:=false) (by omega) (fun j hj=>by
    rw [Cp hm (by omega)];exact h4 j hj) (by rw [Cp hm h2];exact h3)
   unfold Di;rw [this,if_neg (by omega)]
  ·rw [← oV hm h2]
   rw [kU h2] at h3
   exact of_decide_eq_true h3
def Q (g:Gr) (a:Nat) (t:Int):Prop:=∃i,i<g.es.length∧hd g i=(a:Int)∧tl g i=t∧t∉aI g
theorem bY {g:Gr} (hm:aU g=true) {i:Nat} (hi:i<g.es.length):0≤tl g i∧tl g i<g.n:=(ec hm hi).1
theorem di {g:Gr} (hm:aU g=true) {i:Nat} (hi:i<g.es.length):0≤hd g i∧hd g i<g.n:=(ec hm hi).2
theorem Ai {g:Gr} (hm:aU g=true) {i:Nat} (hi:i<g.es.length):0<(cz g (aI g)).getD (tl g i).toNat 0↔tl g i∉aI g:=by
 have h:=bY hm hi
 have e:((tl g i).toNat:Int)=tl g i:=by omega
 rw [kU (by omega),oV hm (by omega),e]
theorem pK {g:Gr} (hm:aU g=true):∀(l:List Int) (b:Int),(∀e∈l,∃i:Nat,e=i∧i<g.es.length)→
 (b= -1∨0≤b)→(l.foldl (fe g (cz g (aI g))) b=b∨∃i:Nat,(i:Int)∈l∧tl g i∉aI g∧l.foldl (fe g (cz g (aI g))) b=tl g i)∧(0≤b→l.foldl (fe g (cz g (aI g))) b≤b)∧
   (∀i:Nat,(i:Int)∈l→tl g i∉aI g→0≤l.foldl (fe g (cz g (aI g))) b∧l.foldl (fe g (cz g (aI g))) b≤tl g i)
 | [],b,_,_=>⟨.inl rfl,fun _=>Int.le_refl _,by simp⟩
 |e::l,b,he,hb=>by
  obtain ⟨i,rfl,hi⟩:=he e List.mem_cons_self
  have htr:=bY hm hi
  have hw:=Ai hm hi
  have hstep:fe g (cz g (aI g)) b (i:Int)=if tl g i∉aI g∧(b<0∨tl g i<b) then tl g i else b:=by
   simp only [fe,Int.toNat_natCast,hw]
  have hb':fe g (cz g (aI g)) b (i:Int)= -1∨0≤fe g (cz g (aI g)) b (i:Int):=by
   rw [hstep];split
   ·exact .inr htr.1
   ·exact hb
  obtain ⟨h1,h2,h3⟩:=pK hm l (fe g (cz g (aI g)) b (i:Int)) (fun e h=>he e (List.mem_cons_of_mem _ h)) hb'
  simp only [List.foldl_cons]
  generalize hr:l.foldl (fe g (cz g (aI g))) (fe g (cz g (aI g)) b (i:Int))=r at h1 h2 h3 ⊢
  refine ⟨?_, ?_, ?_⟩
  ·rcases h1 with h1|⟨j,hj,h4,h5⟩
   ·rw [hstep] at h1
    split at h1
    ·rename_i hc
     exact .inr ⟨i,by simp,hc.1,h1⟩
    ·exact .inl h1
   ·exact .inr ⟨j,by simp [hj],h4,h5⟩
  ·intro h0
   rw [hstep] at h2
   split at h2
   ·rename_i hc;have:=h2 htr.1;omega
   ·exact h2 h0
  ·intro j hj hjn
   rcases List.mem_cons.1 hj with hj|hj
   ·have:j=i:=Int.ofNat.inj hj
    subst this
    rw [hstep] at h1 h2
    split at h1
    ·rename_i hc
     rw [if_pos hc] at h2
     have:=h2 htr.1
     rcases h1 with h1|⟨q,hq,h4,h5⟩
     ·omega
     ·obtain ⟨i',e',hi'⟩:=he q (List.mem_cons_of_mem _ hq)
      have:q=i':=Int.ofNat.inj e'
      subst this
      have:=bY hm hi';omega
    ·rename_i hc
     rw [if_neg hc] at h2
     have F9:¬(b<0∨tl g j<b):=fun h=>hc ⟨hjn,h⟩
     have:=h2 (by omega)
     rcases h1 with h1|⟨q,hq,h4,h5⟩
     ·omega
     ·obtain ⟨i',e',hi'⟩:=he q (List.mem_cons_of_mem _ hq)
      have:q=i':=Int.ofNat.inj e'
      subst this
      have:=bY hm hi';omega
   ·exact h3 j hj hjn
theorem rM {g:Gr} (hm:aU g=true) {a:Nat} (h:∃t,Q g a t):Q g a (iI g (cz g (aI g)) a)∧∀t,Q g a t→iI g (cz g (aI g)) a≤t:=by
 have hin:∀i,i<g.es.length→hd g i=(a:Int)→(i:Int)∈oU g a:=by
  intro i hi hh
  simp only [oU,e9,List.mem_map,List.mem_filter,List.mem_range,decide_eq_true_eq]
  exact ⟨i,⟨hi,hh⟩,rfl⟩
 obtain ⟨h1,_,h3⟩:=pK hm (oU g a) (-1) Cj (.inl rfl)
 have hG:iI g (cz g (aI g)) a=(oU g a).foldl (fe g (cz g (aI g))) (-1):=by simp [iI,tB]
 rw [← hG] at h1 h3
 have hle:∀t,Q g a t→0≤iI g (cz g (aI g)) a∧iI g (cz g (aI g)) a≤t:=by
  rintro t ⟨i,h4,h5,rfl,h6⟩
  exact h3 i (hin i h4 h5) h6
 obtain ⟨t,ht⟩:=h
 have h0:=(hle t ht).1
 refine ⟨?_,fun t ht=>(hle t ht).2⟩
 rcases h1 with h1|⟨i,hi,h4,h5⟩
 ·omega
 ·obtain ⟨i',e',hi',hh⟩:=uQ hi
  have:i=i':=Int.ofNat.inj e'
  subst this
  exact ⟨i,hi',hh,h5.symm,by rw [h5];exact h4⟩
theorem rN {g:Gr} (hm:aU g=true) {a:Nat} :∀k,k≤g.es.length→(dN g a k=g.n∨Q g a (dN g a k))∧dN g a k≤g.n∧∀i,i<k→hd g i=(a:Int)→tl g i∉aI g→dN g a k≤tl g i
 |0,_=>⟨.inl rfl,Int.le_refl _,by simp⟩
 |k+1,hk=>by
  obtain ⟨h1,h2,h3⟩:=rN hm (a:=a) k (by omega)
  have htr:=bY hm (i:=k) (by omega)
  have e:((tl g k).toNat:Int)=tl g k:=by omega
  have hlf:=Co hm (y:=(tl g k).toNat) (by omega)
  rw [e] at hlf
  rw [mO]
  unfold uS
  split
  ·rename_i hc0
   have hc:hd g k=(a:Int)∧tl g k∉aI g:=⟨hc0.1,hlf.1 hc0.2⟩
   refine ⟨?_,by omega, ?_⟩
   ·by_cases hle:dN g a k≤tl g k
    ·rw [Int.min_eq_left hle];exact h1
    ·rw [Int.min_eq_right (by omega)];exact .inr ⟨k,by omega,hc.1,rfl,hc.2⟩
   ·intro i hi hh hn
    by_cases hik:i=k
    ·subst hik;omega
    ·have:=h3 i (by omega) hh hn;omega
  ·rename_i hc
   refine ⟨h1,h2, ?_⟩
   intro i hi hh hn
   by_cases hik:i=k
   ·subst hik;exact absurd ⟨hh,hlf.2 hn⟩ hc
   ·exact h3 i (by omega) hh hn
theorem back_eq {g:Gr} (hm:aU g=true) {a:Nat} (h:∃t,Q g a t):iI g (cz g (aI g)) a=dN g a g.es.length∧Q g a (dN g a g.es.length):=by
 obtain ⟨h1,h2⟩:=rM hm h
 obtain ⟨h3,h4,h5⟩:=rN hm (a:=a) g.es.length (Nat.le_refl _)
 have hb:dN g a g.es.length≤iI g (cz g (aI g)) a:=by
  obtain ⟨i,h6,h7,h8,h9⟩:=h1
  rw [← h8] at h9 ⊢
  exact h5 i h6 h7 h9
 have hlt:iI g (cz g (aI g)) a<g.n:=by
  obtain ⟨i,h6,h7,h8,h9⟩:=h1
  rw [← h8];exact (bY hm h6).2
 rcases h3 with h3|h3
 ·omega
 ·exact ⟨by have:=h2 _ h3;omega,h3⟩
theorem FF {g:Gr} (hm:aU g=true) {a:Nat} (ha:a<g.n.toNat) (h:(a:Int)∉aI g):∃t,Q g a t:=by
 have hw:=(oV hm ha).2 h
 simp only [wt,h,if_false] at hw
 obtain ⟨i,hi,hp⟩:=List.countP_pos_iff.1 (Int.natCast_pos.1 hw)
 simp only [Bool.and_eq_true,decide_eq_true_eq,Bool.not_eq_true',decide_eq_false_iff_not] at hp
 exact ⟨tl g i,i,List.mem_range.1 hi,hp.1,rfl,hp.2⟩
theorem Cq {g:Gr} (hm:aU g=true):∀(f f':Nat) (way:List Int) (a:Nat),way.Nodup→a<g.n.toNat→(a:Int)∉aI g→left g way≤f→left g way≤f'→
 jY g (cz g (aI g)) f way a=mN g f' way a∧(0≤(mN g f' way a).2∧(mN g f' way a).2∈(mN g f' way a).1∧(mN g f' way a).1.Nodup)
 |f,f',way,a,hd,ha,hn,h1,h2=>by
  by_cases hmem:(a:Int)∈way
  ·rw [jt (.inr hmem),wR hmem]
   exact ⟨rfl,by simp only;omega,hmem,hd⟩
  ·have hla:=ig ha hmem
   cases f with
   |zero=>omega
   |succ f=>
    cases f' with
    |zero=>omega
    |succ f'=>
     obtain ⟨hb,hq⟩:=back_eq hm (FF hm ha hn)
     obtain ⟨i,hi,_,ht,I5⟩:=hq
     have htr:=bY hm hi
     rw [ht] at htr
     obtain ⟨b,I6⟩:∃b:Nat,dN g a g.es.length=b:=⟨(dN g a g.es.length).toNat,by omega⟩
     rw [I6] at hb I5 htr
     have hd':(way++ [(a:Int)]).Nodup:=by
      rw [List.nodup_append]
      refine ⟨hd,by simp, ?_⟩
      intro x hx y hy e
      simp at hy
      rw [← hy, ← e] at hmem;exact hmem hx
     have ih:=Cq hm f f' (way++ [(a:Int)]) b hd' (by omega) I5 (by omega) (by omega)
     have e1:jY g (cz g (aI g)) (f+1) way a=jY g (cz g (aI g)) f (way++ [(a:Int)]) b:=by
      simp only [jY];rw [if_neg (by intro h;rcases h with h|h;omega;exact hmem h),hb]
     have e2:mN g (f'+1) way a=mN g f' (way++ [(a:Int)]) b:=by
      simp only [mN];rw [if_neg hmem,I6]
     rw [e1,e2];exact ih
theorem uU {g:Gr} {way:List Int} :left g way≤g.n.toNat:=by
 unfold left
 have:=List.countP_le_length (p:=fun y:Nat=> !decide ((y:Int)∈way)) (l:=List.range g.n.toNat)
 simpa using this
theorem rO {l:List Int} (h:l.Nodup) {i j:Nat} (hi:i<l.length) (hj:j<l.length) (e:l.getD i 0=l.getD j 0):i=j:=by
 rw [List.getD_eq_getElem?_getD,List.getD_eq_getElem?_getD,List.getElem?_eq_getElem hi,List.getElem?_eq_getElem hj] at e
 exact (List.getElem_inj h).1 e
theorem Cr {l:List Int} {i:Nat} (hi:i<l.length):l.reverse.getD i 0=l.getD (l.length - 1 - i) 0:=by
 rw [List.getD_eq_getElem?_getD,List.getD_eq_getElem?_getD,List.getElem?_reverse hi]
theorem D6 {l:List Int} (hd:l.Nodup) (h0:0<l.length):kr l.reverse=tE l:=by
 obtain ⟨m,p9,hm2,J0⟩:=dh (ij h0)
 have JP:0<l.reverse.length:=by simpa using h0
 obtain ⟨k,xA,hk2,I2⟩:=dh (ij JP)
 have hmin:gL l.reverse=gL l:=by
  have h1:=uT (List.mem_reverse.2 (ij h0))
  have h2:=uT (List.mem_reverse.1 (ij JP))
  omega
 rw [List.length_reverse] at hk2
 have hk:l.length - 1 - k=m:=rO hd (by omega) hm2 (by rw [← Cr hk2,I2,J0,hmin])
 have e1:kr l.reverse=l.reverse.drop k++l.reverse.take k:=by
  simp only [kr,xA,Int.toNat_natCast]
 have e2:tE l=pV l m l.length:=by simp only [tE,p9,Int.toNat_natCast]
 rw [e1,e2]
 refine List.ext_getElem? fun i=> ?_
 by_cases hi:i<l.length
 ·have hr:(pV l m l.length)[i]? =some (l.getD ((m+l.length - i) % l.length) 0):=by
   simp [pV,List.getElem?_range hi]
  rw [hr]
  by_cases hik:i<l.length - k
  ·rw [List.getElem?_append_left (by simp;omega),List.getElem?_drop,List.getElem?_reverse (by omega)]
   have:(m+l.length - i) % l.length=m - i:=by
    rw [show m+l.length - i=(m - i)+l.length from by omega,Nat.add_mod_right,Nat.mod_eq_of_lt (by omega)]
   rw [this,show l.length - 1 - (k+i)=m - i from by omega,List.getD_eq_getElem?_getD,List.getElem?_eq_getElem (by omega)];rfl
  ·rw [List.getElem?_append_right (by simp;omega),List.length_drop,List.length_reverse,List.getElem?_take,if_pos (by omega),List.getElem?_reverse (by omega)]
   have:(m+l.length - i) % l.length=m+l.length - i:=Nat.mod_eq_of_lt (by omega)
   rw [this,show l.length - 1 - (i - (l.length - k))=m+l.length - i from by omega,List.getD_eq_getElem?_getD,List.getElem?_eq_getElem (by omega)];rfl
 ·rw [List.getElem?_eq_none (by simp;omega),List.getElem?_eq_none (by simp [pV];omega)]
theorem FG {g:Gr} (hm:aU g=true):js g=kZ g:=by
 have hn:=aY hm
 rcases start_eq hm with ⟨h1,h2⟩|⟨a,ha,h1,h2,h3⟩
 ·have:jr g=([], -1):=by
   unfold jr;rw [h1];exact jt (.inl (by omega)) _
  simp only [js,kZ,this]
  rw [if_pos (by omega),if_pos h2]
 ·obtain ⟨he,h4,h5,h6⟩:=Cq hm g.n.toNat (g.n.toNat+1) [] a (by simp) ha h3 uU (Nat.le_succ_of_le uU)
  have hw:jr g=nN g:=by
   unfold jr nN;rw [h1,h2];exact he
  have hr:mN g (g.n.toNat+1) [] a=nN g:=by unfold nN;rw [h2]
  rw [hr] at h4 h5 h6
  simp only [js,kZ,hw]
  rw [if_neg (by omega),if_neg (by omega)]
  obtain ⟨k,xA,hk2,_⟩:=dh h5
  rw [xA,Int.toNat_natCast]
  exact D6 (List.Pairwise.drop h6) (by simp;omega)
theorem FH (g:Gr):cg g=fM g:=by
 unfold cg fM
 cases hm:aU g with
 |false=>simp [gF,hm]
 |true=>rw [FG hm]
end Go.Ab
end
section
namespace Go.Ab
end Go.Ab
end
section
namespace Go.Ab
open Go.Proofs
attribute [local congr] ACall.congr
set_option maxRecDepth 10000
def g0:Gr:=⟨3, [(0,1),(1,2),(2,1)]⟩
end Go.Ab
end
section
namespace Go.Ab
open Go.Proofs
attribute [local congr] ACall.congr
set_option maxRecDepth 10000
def AY (g:Gr):Bool:=decide (g.n≤((aI g).length:Int))
def N4 (g:Gr):List Int:=if AY g then aI g else []
def fN (l:List Int) (n:Int):Bool:=decide ((l.length:Int)=n)&&(List.range n.toNat).all fun x:Nat=>decide ((x:Int)∈l)
theorem cL {l:List Int} {x:Int} :decide (dn l x<0)= !decide (x∈l):=by
 rw [Bool.eq_iff_iff]
 simp only [decide_eq_true_eq,Bool.not_eq_true',decide_eq_false_iff_not]
 constructor
 ·intro h hm
  obtain ⟨k,hk,_⟩:=dh hm
  omega
 ·intro h
  rcases eS (f:=fun y:Int=>decide (x=y)) (l:=l) 0 with ⟨h1,_⟩|⟨q,_,h2,h3,_⟩
  ·unfold dn;omega
  ·exact absurd (by rw [of_decide_eq_true h3];exact gq h2) h
theorem b9 (l:List Int) (n:Int) (hl:l.length≤9223372036854775807):Spec Tryz.prog 140 (Args [.d (sI l),eN n]) [] (eB (fN l n)) []:=by
 (refine Spec.intro (C:=T.cfg [] []) (rs:= [.t 4]) (T.aq _ _) Tryz.func140 rfl rfl Tryz.ntmps140 Tryz.results140 (by simp [AObj.isNest]) (by simp [AObj.isNest]) (by kernel_rfl) ?_;intro X hX hP hC aM aN vals hA;refine ⟨_,by simp,hA, ?_⟩;have af:X.P.follows .mixedOrders=true:=(by rw [hP];exact T.mixed);clear aM aN)
 repeat' (first|fail|((first|((with_reducible (first|apply oA|apply oB));exact rfl;intro K hK)|(refine hK _ ?_;clear hK K)|((with_reducible (first|apply oG|apply oH));iterate 3 exact rfl)|((with_reducible apply oI);(iterate 2 exact rfl);intro K hK)|(with_reducible (first|apply wI|apply wJ|apply wK)));try simp only [go_sem,simprocAttr,cL])|fail|(with_reducible (first|apply oC|apply oJ|exact oK|apply wA|apply wB|apply wC hX hC|apply wD hX hC|apply wE hX hC af|apply wF hX hC af|apply wG|apply wH|apply And.intro))|((with_reducible refine oD ?_ ?_);first|fail|kernel_rfl)|((with_reducible (first|apply oE|apply oF));(iterate 3 exact rfl);all_goals (intro h;first|(exact absurd h (by decide))|((try simp only [go_sem,simprocAttr,cL] at h);(try with_reducible intro K hK);simp only [go_sem,simprocAttr,cL])))|((first|((with_reducible apply wL);exact rfl)|((with_reducible apply wM);exact rfl));all_goals (try ((with_reducible intro h);first|(exact absurd h (by decide))|(try simp only [go_sem,simprocAttr,cL] at h))))|omega|((first|refine aa hX hC hP (bg l (k:Int) hl) rfl rfl rfl (by simp only [go_sem,simprocAttr,cL]) rfl ?_);try simp only [go_sem,simprocAttr,cL])|(intro h))
 ·have hne:¬(l.length:Int)=n:=by assumption
  simp [fN,hne]
 have LM:(l.length:Int)=n:=by assumption
 refine an (fun k:Nat=>(k:Int)≤n∧∀j,j<k→(j:Int)∈l) (fun k=>⟨[(0, .d (sI l)),(1,eN n),(5,eN k)], []⟩) (fun k=>n.toNat - k) 0 (by simp;omega) ?_ ?_
 ·(refine ⟨bL ?_,fun _ _ h=>h⟩;simp [go_sem,simprocAttr,cL])
 rintro k ⟨hk,hin⟩
 repeat' (first|fail|((first|((with_reducible (first|apply oA|apply oB));exact rfl;intro K hK)|(refine hK _ ?_;clear hK K)|((with_reducible (first|apply oG|apply oH));iterate 3 exact rfl)|((with_reducible apply oI);(iterate 2 exact rfl);intro K hK)|(with_reducible (first|apply wI|apply wJ|apply wK)));try simp only [go_sem,simprocAttr,cL])|fail|(with_reducible (first|apply oC|apply oJ|exact oK|apply wA|apply wB|apply wC hX hC|apply wD hX hC|apply wE hX hC af|apply wF hX hC af|apply wG|apply wH|apply And.intro))|((with_reducible refine oD ?_ ?_);first|fail|kernel_rfl)|((with_reducible (first|apply oE|apply oF));(iterate 3 exact rfl);all_goals (intro h;first|(exact absurd h (by decide))|((try simp only [go_sem,simprocAttr,cL] at h);(try with_reducible intro K hK);simp only [go_sem,simprocAttr,cL])))|((first|((with_reducible apply wL);exact rfl)|((with_reducible apply wM);exact rfl));all_goals (try ((with_reducible intro h);first|(exact absurd h (by decide))|(try simp only [go_sem,simprocAttr,cL] at h))))|omega|((first|refine aa hX hC hP (bg l (k:Int) hl) rfl rfl rfl (by simp only [go_sem,simprocAttr,cL]) rfl ?_);try simp only [go_sem,simprocAttr,cL])|(intro h))
 ·have hlt:(k:Int)<n:=by assumption
  have hm:(List.range n.toNat).all (fun x:Nat=>decide ((x:Int)∈l))=false:=by
   rw [List.all_eq_false]
   exact ⟨k,List.mem_range.2 (by omega),by simpa using h⟩
  simp only [fN,hm,Bool.and_false]
 ·refine ⟨k+1,⟨by omega,fun j hj=> ?_⟩, ?_,by omega⟩
  ·by_cases hjk:j=k
   ·subst hjk;exact h
   ·exact hin j (by omega)
  ·(refine ⟨bL ?_,fun _ _ h=>h⟩;simp [go_sem,simprocAttr,cL])
 ·have hm:(List.range n.toNat).all (fun x:Nat=>decide ((x:Int)∈l))=true:=by
   rw [List.all_eq_true]
   intro x hx
   exact decide_eq_true (hin x (by have:=List.mem_range.1 hx;omega))
  simp only [fN,hm,Bool.and_true]
  exact (decide_eq_true LM).symm
end Go.Ab
end
section
namespace Go.Ab
open Go.Proofs
attribute [local congr] ACall.congr
set_option maxRecDepth 10000
theorem count_le:∀(xs l:List Int),xs.Nodup→(∀x∈xs,x∈l)→xs.length≤l.countP (fun y=>decide (y∈xs))
 | [],_,_,_=>Nat.zero_le _
 |a::r,l,hd,h=>by
  obtain ⟨h1,h2⟩:=List.nodup_cons.1 hd
  have ih:=count_le r l h2 fun x hx=>h x (List.mem_cons_of_mem _ hx)
  have hp:=jX (p:=fun y=>decide (y∈a::r)) (q:=fun y=>decide (y∈r)) (r:=fun y=>decide (y=a)) (l:=l) (fun y _=>by
   by_cases hy:y=a
   ·subst hy;simp [h1]
   ·simp [hy])
  have ha:0<l.countP (fun y=>decide (y=a)):=List.countP_pos_iff.2 ⟨a,h a List.mem_cons_self,by simp⟩
  rw [hp,List.length_cons];omega
def iR (n:Nat):List Int:=(List.range n).map Int.ofNat
theorem dO {n:Nat} {x:Int} :x∈iR n↔0≤x∧x<n:=by
 simp only [iR,List.mem_map,List.mem_range]
 constructor
 ·rintro ⟨a,h,rfl⟩;simp;omega
 ·intro h;exact ⟨x.toNat,by omega,by simp;omega⟩
theorem j3 {n:Nat} :(iR n).Nodup:=by
 unfold iR
 exact List.Pairwise.map _ (fun a b h e=>h (Int.ofNat.inj e)) List.nodup_range
theorem bU {l:List Int} {n:Int} :fN l n=true↔(l.length:Int)=n∧∀x∈iR n.toNat,x∈l:=by
 simp only [fN,Bool.and_eq_true,decide_eq_true_eq,List.all_eq_true,List.mem_range]
 constructor
 ·rintro ⟨h1,h2⟩
  refine ⟨h1,fun x hx=> ?_⟩
  obtain ⟨a,b⟩:=dO.1 hx
  have:=h2 x.toNat (by omega)
  rwa [show ((x.toNat:Nat):Int)=x from by omega] at this
 ·rintro ⟨h1,h2⟩
  exact ⟨h1,fun x hx=>h2 _ (dO.2 (by omega))⟩
theorem rP {l:List Int} {n:Int} (h:fN l n=true):∀x∈l,0≤x∧x<n:=by
 obtain ⟨h1,h2⟩:=bU.1 h
 have hc:=count_le (iR n.toNat) l j3 h2
 have hlen:(iR n.toNat).length=n.toNat:=by simp [iR]
 have he:l.countP (fun y=>decide (y∈iR n.toNat))=l.length:=by
  have:=List.countP_le_length (p:=fun y=>decide (y∈iR n.toNat)) (l:=l)
  omega
 intro x hx
 have:=List.countP_eq_length.1 he x hx
 have:=dO.1 (of_decide_eq_true this)
 omega
def wT (n:Nat) (l:List Int):Nat→List Int
 |0=>List.replicate n 0
 |k+1=>(wT n l k).set (l.getD k 0).toNat k
theorem atK_length {n:Nat} {l:List Int} :∀ {k:Nat},(wT n l k).length=n
 |0=>by simp [wT]
 |k+1=>by simp [wT,atK_length (k:=k)]
def Cs (g:Gr) (l:List Int) (j:Nat):Bool:=(List.range j).all fun i=>decide ((wT g.n.toNat l l.length).getD (tl g i).toNat 0<(wT g.n.toNat l l.length).getD (hd g i).toNat 0)
def uV (g:Gr) (l:List Int):Bool:=fN l g.n&&Cs g l g.es.length
attribute [go_sem] atK_length
end Go.Ab
end
section
namespace Go.Ab
def Pg (g:Gr) (out:List Int):Prop:=∀p,p<out.length→out.getD p 0=dn (cz g (out.take p)) 0∧0≤out.getD p 0
theorem yV {g:Gr} (hm:aU g=true) (h:AY g=true):fN (aI g) g.n=true:=by
 obtain ⟨hP,_,_⟩:=fS hm
 have hn:=aY hm
 have hf:=hP.fuel
 have hok:=of_decide_eq_true h
 refine bU.2 ⟨by omega,fun x hx=> ?_⟩
 obtain ⟨h1,h2⟩:=dO.1 hx
 have h0:(List.range g.n.toNat).countP (fun y:Nat=> !decide ((y:Int)∈aI g))=0:=by omega
 have:=List.countP_eq_zero.1 h0 x.toNat (List.mem_range.2 (by omega))
 rw [show ((x.toNat:Nat):Int)=x from by omega] at this
 simpa using this
theorem yW {g:Gr} (hm:aU g=true) (h:AY g=false):∃y:Nat,y<g.n.toNat∧(y:Int)∉aI g:=by
 obtain ⟨hP,_,_⟩:=fS hm
 have hn:=aY hm
 have hf:=hP.fuel
 have hok:=of_decide_eq_false h
 have h0:0<(List.range g.n.toNat).countP (fun y:Nat=> !decide ((y:Int)∈aI g)):=by omega
 obtain ⟨y,hy,hp⟩:=List.countP_pos_iff.1 h0
 exact ⟨y,List.mem_range.1 hy,by simpa using hp⟩
theorem Ct {g:Gr} {l:List Int} (h:uV g l=true) {i:Nat} (hi:i<g.es.length):(wT g.n.toNat l l.length).getD (tl g i).toNat 0<(wT g.n.toNat l l.length).getD (hd g i).toNat 0:=by
 simp only [uV,Bool.and_eq_true] at h
 have:=List.all_eq_true.1 h.2 i (List.mem_range.2 hi)
 exact of_decide_eq_true this
theorem rQ {n:Nat} {l:List Int} :∀ {k:Nat} {y:Nat},0≤(wT n l k).getD y 0
 |0,y=>by
  simp only [wT,List.getD_eq_getElem?_getD,List.getElem?_replicate]
  split<;>simp
 |k+1,y=>by
  have ih:=rQ (n:=n) (l:=l) (k:=k) (y:=y)
  simp only [wT,List.getD_eq_getElem?_getD,List.getElem?_set] at ih ⊢
  split
  ·split<;>simp
  ·exact ih
theorem uW {l:List Int} {i j:Nat} (hij:i<j) (hj:j<l.length) (e:l.getD i 0=l.getD j 0):∀x∈l,x∈l.eraseIdx i:=by
 intro x hx
 obtain ⟨k,hk,rfl⟩:=List.getElem_of_mem hx
 rw [List.mem_iff_getElem?]
 rcases Nat.lt_trichotomy k i with h|h|h
 ·exact ⟨k,by rw [List.getElem?_eraseIdx,if_pos h,List.getElem?_eq_getElem hk]⟩
 ·subst h
  refine ⟨j - 1, ?_⟩
  rw [List.getElem?_eraseIdx,if_neg (by omega),show j - 1+1=j from by omega,List.getElem?_eq_getElem hj]
  rw [List.getD_eq_getElem?_getD,List.getD_eq_getElem?_getD,List.getElem?_eq_getElem hk,List.getElem?_eq_getElem hj] at e
  exact congrArg some e.symm
 ·exact ⟨k - 1,by rw [List.getElem?_eraseIdx,if_neg (by omega),show k - 1+1=k from by omega,List.getElem?_eq_getElem hk]⟩
theorem j4 {l:List Int} {n:Int} (h:fN l n=true) {i j:Nat} (hi:i<l.length) (hj:j<l.length) (e:l.getD i 0=l.getD j 0):i=j:=by
 obtain ⟨h1,h2⟩:=bU.1 h
 have key:∀i j,i<j→j<l.length→l.getD i 0=l.getD j 0→False:=by
  intro i j hij hj e
  have hc:=count_le (iR n.toNat) (l.eraseIdx i) j3 fun x hx=>uW hij hj e x (h2 x hx)
  have hlen:(iR n.toNat).length=n.toNat:=by simp [iR]
  have hle:=List.countP_le_length (p:=fun y=>decide (y∈iR n.toNat)) (l:=l.eraseIdx i)
  rw [List.length_eraseIdx_of_lt (by omega)] at hle
  omega
 rcases Nat.lt_trichotomy i j with h|h|h
 ·exact (key i j h hj e).elim
 ·exact h
 ·exact (key j i h hi e.symm).elim
theorem uX {l:List Int} {n:Int} (h:fN l n=true) {p:Nat} :∀ {k:Nat},p<k→k≤l.length→(wT n.toNat l k).getD (l.getD p 0).toNat 0=p
 |0,hp,_=>by omega
 |k+1,hp,hk=>by
  have hlo:=rP h
  have hp1:=hlo _ (gq (l:=l) (m:=p) (by omega))
  have xA:=hlo _ (gq (l:=l) (m:=k) (by omega))
  simp only [wT,List.getD_eq_getElem?_getD (l:=(wT n.toNat l k).set _ _),List.getElem?_set,atK_length]
  by_cases hpk:p=k
  ·subst hpk
   rw [if_pos rfl,if_pos (by omega)];rfl
  ·have hne:¬(l.getD k 0).toNat=(l.getD p 0).toNat:=fun e=>hpk (j4 h (i:=p) (j:=k) (by omega) (by omega) (by omega))
   rw [if_neg hne, ← List.getD_eq_getElem?_getD]
   exact uX h (by omega) (by omega)
theorem Aj {g:Gr} (hm:aU g=true) (h:AY g=true):uV g (aI g)=true:=by
 have he:=yV hm h
 obtain ⟨hP,hO,_⟩:=fS hm
 have hall:=(bU.1 he).2
 simp only [uV,he,Bool.true_and,Cs,List.all_eq_true,List.mem_range,decide_eq_true_eq]
 intro i hi
 have hh:=di hm hi
 obtain ⟨p,hp,e⟩:=List.getElem_of_mem (hall (hd g i) (dO.2 (by omega)))
 have e':(aI g).getD p 0=hd g i:=by rw [List.getD_eq_getElem?_getD,List.getElem?_eq_getElem hp];exact e
 have ht:=hO p hp i hi e'.symm
 rw [List.mem_iff_getElem?] at ht
 obtain ⟨q,hq⟩:=ht
 rw [List.getElem?_take] at hq
 split at hq
 ·rename_i N3
  have e2:(aI g).getD q 0=tl g i:=by rw [List.getD_eq_getElem?_getD,hq];rfl
  rw [← e', ← e2,uX he hp (Nat.le_refl _),uX he (by omega) (Nat.le_refl _)]
  omega
 ·cases hq
end Go.Ab
end
section
namespace Go.Ab
open Go.Proofs
attribute [local congr] ACall.congr
set_option maxRecDepth 10000
end Go.Ab
end
section
namespace Go.Ab
open Go.Proofs
attribute [local congr] ACall.congr
set_option maxRecDepth 10000
def gz:Gr:=⟨0, []⟩
def vz:D:= .pt [.sc (.int .i64 0), .sl 2 [], .sl 1 [], .sl 1 []]
def bp (f:Edge→Int) (g:Gr) (x:Int):List Int:=if 0≤x∧x<g.n then bf f g.es g.es.length x else []
theorem rR (f:Edge→Int) (g:Gr) (hm:aU g=true) (x:Int):Spec Tryz.prog 105 (Args [.d (vw g), .d (.sl 1 (D2 f g)),eN x]) [] (.d (sI (bp f g x))) []:=by
 rw [ah]
 have hn:=aY hm
 have hl':(bf f g.es g.es.length x).length≤1000000:=by have:=jw (f:=f) (es:=g.es) (k:=g.es.length) (x:=x);omega
 (refine Spec.intro (C:=T.cfg [] []) (rs:= [.t 6]) (T.aq _ _) Tryz.func105 rfl rfl Tryz.ntmps105 Tryz.results105 (by simp [AObj.isNest]) (by simp [AObj.isNest]) (by kernel_rfl) ?_;intro X hX hP hC aM aN vals hA;refine ⟨_,by simp,hA, ?_⟩;have af:X.P.follows .mixedOrders=true:=(by rw [hP];exact T.mixed);clear aM aN)
 by_cases hx:0≤x∧x<g.n
 ·have hv:=nL (f:=f) (g:=g) (x:=x.toNat) (by omega)
  have he:e9 f g.es g.es.length x.toNat=bf f g.es g.es.length x:=by rw [kW,show ((x.toNat:Nat):Int)=x from by omega]
  rw [he] at hv
  have aj:decide (x<0)=false:=decide_eq_false (by omega)
  have ak:decide (g.n≤x)=false:=decide_eq_false (by omega)
  have ht:bp f g x=bf f g.es g.es.length x:=if_pos hx
  repeat' (first|fail|((first|((with_reducible (first|apply oA|apply oB));exact rfl;intro K hK)|(refine hK _ ?_;clear hK K)|((with_reducible (first|apply oG|apply oH));iterate 3 exact rfl)|((with_reducible apply oI);(iterate 2 exact rfl);intro K hK)|(with_reducible (first|apply wI|apply wJ|apply wK)));try simp only [go_sem,simprocAttr,hv,aj,ak])|fail|(with_reducible (first|apply oC|apply oJ|exact oK|apply wA|apply wB|apply wC hX hC|apply wD hX hC|apply wE hX hC af|apply wF hX hC af|apply wG|apply wH|apply And.intro))|((with_reducible refine oD ?_ ?_);first|fail|kernel_rfl)|((with_reducible (first|apply oE|apply oF));(iterate 3 exact rfl);all_goals (intro h;first|(exact absurd h (by decide))|((try simp only [go_sem,simprocAttr,hv,aj,ak] at h);(try with_reducible intro K hK);simp only [go_sem,simprocAttr,hv,aj,ak])))|((first|((with_reducible apply wL);exact rfl)|((with_reducible apply wM);exact rfl));all_goals (try ((with_reducible intro h);first|(exact absurd h (by decide))|(try simp only [go_sem,simprocAttr,hv,aj,ak] at h))))|omega|((first|first|refine aa hX hC hP (kT (bf f g.es g.es.length x) hl') rfl rfl rfl (by simp only [go_sem,simprocAttr,hv,aj,ak]) rfl ?_);try simp only [go_sem,simprocAttr,hv,aj,ak])|(intro h))
  simp [ht]
 ·have ht:bp f g x= []:=if_neg hx
  repeat' (first|fail|((first|((with_reducible (first|apply oA|apply oB));exact rfl;intro K hK)|(refine hK _ ?_;clear hK K)|((with_reducible (first|apply oG|apply oH));iterate 3 exact rfl)|((with_reducible apply oI);(iterate 2 exact rfl);intro K hK)|(with_reducible (first|apply wI|apply wJ|apply wK)));try simp only [go_sem,simprocAttr,ht])|fail|(with_reducible (first|apply oC|apply oJ|exact oK|apply wA|apply wB|apply wC hX hC|apply wD hX hC|apply wE hX hC af|apply wF hX hC af|apply wG|apply wH|apply And.intro))|((with_reducible refine oD ?_ ?_);first|fail|kernel_rfl)|((with_reducible (first|apply oE|apply oF));(iterate 3 exact rfl);all_goals (intro h;first|(exact absurd h (by decide))|((try simp only [go_sem,simprocAttr,ht] at h);(try with_reducible intro K hK);simp only [go_sem,simprocAttr,ht])))|((first|((with_reducible apply wL);exact rfl)|((with_reducible apply wM);exact rfl));all_goals (try ((with_reducible intro h);first|(exact absurd h (by decide))|(try simp only [go_sem,simprocAttr,ht] at h))))|omega|((first|first|refine aa hX hC hP (kT (bf f g.es g.es.length x) hl') rfl rfl rfl (by simp only [go_sem,simprocAttr,ht]) rfl ?_);try simp only [go_sem,simprocAttr,ht])|(intro h))
theorem gU (g:Gr) (hm:aU g=true) (x:Int):Spec Tryz.prog 78 (Args [.d (vw g),eN x]) [] (.d (sI (bp (·.1) g x))) []:=by
 (refine Spec.intro (C:=T.cfg [] []) (rs:= [.t 4]) (T.aq _ _) Tryz.func78 rfl rfl Tryz.ntmps78 Tryz.results78 (by simp [AObj.isNest]) (by simp [AObj.isNest]) (by kernel_rfl) ?_;intro X hX hP hC aM aN vals hA;refine ⟨_,by simp,hA, ?_⟩;have af:X.P.follows .mixedOrders=true:=(by rw [hP];exact T.mixed);clear aM aN)
 repeat' (first|fail|((first|((with_reducible (first|apply oA|apply oB));exact rfl;intro K hK)|(refine hK _ ?_;clear hK K)|((with_reducible (first|apply oG|apply oH));iterate 3 exact rfl)|((with_reducible apply oI);(iterate 2 exact rfl);intro K hK)|(with_reducible (first|apply wI|apply wJ|apply wK)));try simp only [go_sem,simprocAttr,ah])|fail|(with_reducible (first|apply oC|apply oJ|exact oK|apply wA|apply wB|apply wC hX hC|apply wD hX hC|apply wE hX hC af|apply wF hX hC af|apply wG|apply wH|apply And.intro))|((with_reducible refine oD ?_ ?_);first|fail|kernel_rfl)|((with_reducible (first|apply oE|apply oF));(iterate 3 exact rfl);all_goals (intro h;first|(exact absurd h (by decide))|((try simp only [go_sem,simprocAttr,ah] at h);(try with_reducible intro K hK);simp only [go_sem,simprocAttr,ah])))|((first|((with_reducible apply wL);exact rfl)|((with_reducible apply wM);exact rfl));all_goals (try ((with_reducible intro h);first|(exact absurd h (by decide))|(try simp only [go_sem,simprocAttr,ah] at h))))|omega|((first|first|refine aa hX hC hP (rR (·.1) g hm x) rfl rfl rfl (by simp only [go_sem,simprocAttr,ah]) rfl ?_);try simp only [go_sem,simprocAttr,ah])|(intro h))
theorem jx (g:Gr) (hm:aU g=true) (x:Int):Spec Tryz.prog 98 (Args [.d (vw g),eN x]) [] (.d (sI (bp (·.2) g x))) []:=by
 (refine Spec.intro (C:=T.cfg [] []) (rs:= [.t 4]) (T.aq _ _) Tryz.func98 rfl rfl Tryz.ntmps98 Tryz.results98 (by simp [AObj.isNest]) (by simp [AObj.isNest]) (by kernel_rfl) ?_;intro X hX hP hC aM aN vals hA;refine ⟨_,by simp,hA, ?_⟩;have af:X.P.follows .mixedOrders=true:=(by rw [hP];exact T.mixed);clear aM aN)
 repeat' (first|fail|((first|((with_reducible (first|apply oA|apply oB));exact rfl;intro K hK)|(refine hK _ ?_;clear hK K)|((with_reducible (first|apply oG|apply oH));iterate 3 exact rfl)|((with_reducible apply oI);(iterate 2 exact rfl);intro K hK)|(with_reducible (first|apply wI|apply wJ|apply wK)));try simp only [go_sem,simprocAttr,ah])|fail|(with_reducible (first|apply oC|apply oJ|exact oK|apply wA|apply wB|apply wC hX hC|apply wD hX hC|apply wE hX hC af|apply wF hX hC af|apply wG|apply wH|apply And.intro))|((with_reducible refine oD ?_ ?_);first|fail|kernel_rfl)|((with_reducible (first|apply oE|apply oF));(iterate 3 exact rfl);all_goals (intro h;first|(exact absurd h (by decide))|((try simp only [go_sem,simprocAttr,ah] at h);(try with_reducible intro K hK);simp only [go_sem,simprocAttr,ah])))|((first|((with_reducible apply wL);exact rfl)|((with_reducible apply wM);exact rfl));all_goals (try ((with_reducible intro h);first|(exact absurd h (by decide))|(try simp only [go_sem,simprocAttr,ah] at h))))|omega|((first|first|refine aa hX hC hP (rR (·.2) g hm x) rfl rfl rfl (by simp only [go_sem,simprocAttr,ah]) rfl ?_);try simp only [go_sem,simprocAttr,ah])|(intro h))
end Go.Ab
end
section
namespace Go.Ab
open Go.Proofs
attribute [local congr] ACall.congr
set_option maxRecDepth 10000
abbrev It:=Int × Int × Int
def rT (t:It):List D:= [.sc (.int .i64 t.1), .sc (.int .i64 t.2.1), .sc (.int .i64 t.2.2)]
def eT (t:It):AV:= .agg [.d (.sc (.int .i64 t.1)), .d (.sc (.int .i64 t.2.1)), .d (.sc (.int .i64 t.2.2))]
def sT (ts:List It):D:= .sl 3 (ts.map rT)
theorem getD_rT (ps:List It) (i:Nat):(ps.map rT).getD i [.sc (.int .i64 0), .sc (.int .i64 0), .sc (.int .i64 0)]=rT (ps.getD i (0,0,0)):=by
 simp only [List.getD_eq_getElem?_getD,List.getElem?_map]
 cases ps[i]? <;>rfl
theorem rT_eq (t:It):rT t= [.sc (.int .i64 t.1), .sc (.int .i64 t.2.1), .sc (.int .i64 t.2.2)]:=rfl
attribute [go_sem] getD_rT rT_eq eT sT
theorem EI {l:List Int} :∀r∈l.map rI,∀x∈r,∃v,x=D.sc v:=by
 intro r hr x hx
 obtain ⟨y,_,rfl⟩:=List.mem_map.1 hr
 simp only [rI,List.mem_singleton] at hx
 exact ⟨_,hx⟩
theorem EJ {l:List It} :∀r∈l.map rT,∀x∈r,∃v,x=D.sc v:=by
 intro r hr x hx
 obtain ⟨y,_,rfl⟩:=List.mem_map.1 hr
 simp only [rT,List.mem_cons,List.not_mem_nil,or_false] at hx
 rcases hx with h|h|h<;>exact ⟨_,h⟩
theorem aT {α:Type} {l:List α} {m:Nat} {d:α} (h:m<l.length):l.getD m d∈l:=by
 rw [List.getD_eq_getElem?_getD,List.getElem?_eq_getElem h];exact List.getElem_mem h
theorem pL (ps:List It) (hl:ps.length≤1000000):
 Spec Tryz.prog 116 (Args [.d (sT ps)]) [] (.ref 10000) [(10000, .tip 96 3 (ps.map rT))]:=by
 (refine Spec.fA (C:=T.cfg [] []) (rs:= [.t 2]) [(10000,7)] (T.aq _ _) Tryz.func116 rfl rfl Tryz.ntmps116 Tryz.results116 (by simp [AObj.isNest]) (by simp [AObj.isNest]) (by first|(simp [look];done)|(simp [asN];done)|(intro l hl;simp only [asN];repeat (rw [if_neg (fun e=>by subst e;simp [look] at hl)]))) (by first|(simp [look];done)|(simp [asN];done)|(intro l hl;simp only [asN];repeat (rw [if_neg (fun e=>by subst e;simp [look] at hl)]))) (by kernel_rfl) ?_;intro X hX hP hC aM aN vals hA;refine ⟨_,by simp,hA, ?_⟩;have af:X.P.follows .mixedOrders=true:=(by rw [hP];exact T.mixed);clear aM aN)
 repeat' (first|(show dG _ .ret _ _;(try simp only [go_sem,simprocAttr]);refine jT hX 2 7 (.tip 96 3 []) ?_ ?_ (by decide) ⟨96,3,by decide, .inr rfl⟩ ?_;(iterate 2 (focus (simp only [go_sem,simprocAttr];done)));simp only [go_sem,simprocAttr])|((first|((with_reducible (first|apply oA|apply oB));exact rfl;intro K hK)|(refine hK _ ?_;clear hK K)|((with_reducible (first|apply oG|apply oH));iterate 3 exact rfl)|((with_reducible apply oI);(iterate 2 exact rfl);intro K hK)|(with_reducible (first|apply wI|apply wJ|apply wK)));try simp only [go_sem,simprocAttr])|fail|(with_reducible (first|apply oC|apply oJ|exact oK|apply wA|apply wB|apply wC hX hC|apply wD hX hC|apply wE hX hC af|apply wF hX hC af|apply wG|apply wH|apply And.intro))|((with_reducible refine oD ?_ ?_);first|fail|kernel_rfl)|((with_reducible (first|apply oE|apply oF));(iterate 3 exact rfl);all_goals (intro h;first|(exact absurd h (by decide))|((try simp only [go_sem,simprocAttr] at h);(try with_reducible intro K hK);simp only [go_sem,simprocAttr])))|((first|((with_reducible apply wL);exact rfl)|((with_reducible apply wM);exact rfl));all_goals (try ((with_reducible intro h);first|(exact absurd h (by decide))|(try simp only [go_sem,simprocAttr] at h))))|omega|((first|fail);try simp only [go_sem,simprocAttr])|(intro h))
 exact h.symm
theorem ku {m:List (Nat × AObj)} (hR:bu m) (f:Nat) (caps:List AV) (g:It→Bool) (ps:List It) (hf:∀p∈ps,Spec Tryz.prog f (Args (eT p::caps)) m (eB (g p)) m) (hl:ps.length≤9223372036854775807):
 Spec Tryz.prog 165 (Args [.d (sT ps), .fn f [] caps]) m (eN (bR g ps)) m:=by
 (refine Spec.intro (C:=T.cfg [] []) (rs:= [.t 4]) (T.aq _ _) Tryz.func165 rfl rfl Tryz.ntmps165 Tryz.results165 (fun p hp=>⟨(bu.low hR p hp).1,bu.nest hR p hp⟩) (fun p hp=>⟨(bu.low hR p hp).2,bu.nest hR p hp⟩) (by kernel_rfl) ?_;intro X hX hP hC aM aN vals hA;refine ⟨_,by simp,hA, ?_⟩;have af:X.P.follows .mixedOrders=true:=(by rw [hP];exact T.mixed);clear aM aN)
 repeat' (first|fail|((first|((with_reducible (first|apply oA|apply oB));exact rfl;intro K hK)|(refine hK _ ?_;clear hK K)|((with_reducible (first|apply oG|apply oH));iterate 3 exact rfl)|((with_reducible apply oI);(iterate 2 exact rfl);intro K hK)|(with_reducible (first|apply wI|apply wJ|apply wK)));try simp only [go_sem,simprocAttr])|fail|(with_reducible (first|apply oC|apply oJ|exact oK|apply wA|apply wB|apply wC hX hC|apply wD hX hC|apply wE hX hC af|apply wF hX hC af|apply wG|apply wH|apply And.intro))|((with_reducible refine oD ?_ ?_);first|fail|kernel_rfl)|((with_reducible (first|apply oE|apply oF));(iterate 3 exact rfl);all_goals (intro h;first|(exact absurd h (by decide))|((try simp only [go_sem,simprocAttr] at h);(try with_reducible intro K hK);simp only [go_sem,simprocAttr])))|((first|((with_reducible apply wL);exact rfl)|((with_reducible apply wM);exact rfl));all_goals (try ((with_reducible intro h);first|(exact absurd h (by decide))|(try simp only [go_sem,simprocAttr] at h))))|omega|((first|fail);try simp only [go_sem,simprocAttr])|(intro h))
 refine an (fun k:Nat=>k≤ps.length∧∀j,j<k→g (ps.getD j (0,0,0))=false) (fun k=>⟨[(0, .d (sT ps)),(1, .fn f [] caps),(7,eN ps.length),(8,eN k)],m⟩) (fun k=>ps.length - k) 0 (by simp) ?_ ?_
 ·(refine ⟨bL ?_,fun _ _ h=>h⟩;simp [go_sem,simprocAttr])
 rintro k ⟨hk,hg⟩
 rcases Nat.lt_or_ge k ps.length with hlt|hge
 ·have hb:decide ((k:Int)<(ps.length:Int))=true:=decide_eq_true (by omega)
  have hf':=hf (ps.getD k (0,0,0)) (aT hlt)
  repeat' (first|fail|((first|((with_reducible (first|apply oA|apply oB));exact rfl;intro K hK)|(refine hK _ ?_;clear hK K)|((with_reducible (first|apply oG|apply oH));iterate 3 exact rfl)|((with_reducible apply oI);(iterate 2 exact rfl);intro K hK)|(with_reducible (first|apply wI|apply wJ|apply wK)));try simp only [go_sem,simprocAttr,hb])|fail|(with_reducible (first|apply oC|apply oJ|exact oK|apply wA|apply wB|apply wC hX hC|apply wD hX hC|apply wE hX hC af|apply wF hX hC af|apply wG|apply wH|apply And.intro))|((with_reducible refine oD ?_ ?_);first|fail|kernel_rfl)|((with_reducible (first|apply oE|apply oF));(iterate 3 exact rfl);all_goals (intro h;first|(exact absurd h (by decide))|((try simp only [go_sem,simprocAttr,hb] at h);(try with_reducible intro K hK);simp only [go_sem,simprocAttr,hb])))|((first|((with_reducible apply wL);exact rfl)|((with_reducible apply wM);exact rfl));all_goals (try ((with_reducible intro h);first|(exact absurd h (by decide))|(try simp only [go_sem,simprocAttr,hb] at h))))|omega|((first|(first|(refine aZ hX hC hP hR (hf') rfl rfl rfl ?_ ?_ rfl rfl ?_;(focus (simp only [go_sem,simprocAttr,hb];done));(focus (first|(intro p hp;exact aK (bu.nd hR) hp)|(simp [go_sem,simprocAttr,hb];done))))|(refine aZ hX hC hP hR (hf') rfl rfl rfl ?_ ?_ ?_ rfl ?_;(focus (simp only [go_sem,simprocAttr,hb];done));(focus (first|(intro p hp;exact aK (bu.nd hR) hp)|(simp [go_sem,simprocAttr,hb];done)));(focus (simp [go_sem,simprocAttr,hb];done)))));try simp only [go_sem,simprocAttr,hb])|(intro h))
  ·exact (dF (by omega) hg h).symm
  ·exact fC hR
  ·refine ⟨k+1,⟨by omega,fun j hj=> ?_⟩, ?_,by omega⟩
   ·by_cases hjk:j=k
    ·subst hjk;exact h
    ·exact hg j (by omega)
   ·(refine ⟨bL ?_,fun _ _ h=>h⟩;simp [go_sem,simprocAttr,hb])
 ·have hb:decide ((k:Int)<(ps.length:Int))=false:=decide_eq_false (by omega)
  repeat' (first|fail|((first|((with_reducible (first|apply oA|apply oB));exact rfl;intro K hK)|(refine hK _ ?_;clear hK K)|((with_reducible (first|apply oG|apply oH));iterate 3 exact rfl)|((with_reducible apply oI);(iterate 2 exact rfl);intro K hK)|(with_reducible (first|apply wI|apply wJ|apply wK)));try simp only [go_sem,simprocAttr,hb])|fail|(with_reducible (first|apply oC|apply oJ|exact oK|apply wA|apply wB|apply wC hX hC|apply wD hX hC|apply wE hX hC af|apply wF hX hC af|apply wG|apply wH|apply And.intro))|((with_reducible refine oD ?_ ?_);first|fail|kernel_rfl)|((with_reducible (first|apply oE|apply oF));(iterate 3 exact rfl);all_goals (intro h;first|(exact absurd h (by decide))|((try simp only [go_sem,simprocAttr,hb] at h);(try with_reducible intro K hK);simp only [go_sem,simprocAttr,hb])))|((first|((with_reducible apply wL);exact rfl)|((with_reducible apply wM);exact rfl));all_goals (try ((with_reducible intro h);first|(exact absurd h (by decide))|(try simp only [go_sem,simprocAttr,hb] at h))))|omega|((first|(first|(refine aZ hX hC hP hR (hf') rfl rfl rfl ?_ ?_ rfl rfl ?_;(focus (simp only [go_sem,simprocAttr,hb];done));(focus (first|(intro p hp;exact aK (bu.nd hR) hp)|(simp [go_sem,simprocAttr,hb];done))))|(refine aZ hX hC hP hR (hf') rfl rfl rfl ?_ ?_ ?_ rfl ?_;(focus (simp only [go_sem,simprocAttr,hb];done));(focus (first|(intro p hp;exact aK (bu.nd hR) hp)|(simp [go_sem,simprocAttr,hb];done)));(focus (simp [go_sem,simprocAttr,hb];done)))));try simp only [go_sem,simprocAttr,hb])|(intro h))
  ·exact (cA (0,0,0) fun j hj=>hg j (by omega)).symm
  ·exact fC hR
theorem mP {m:List (Nat × AObj)} (hR:bu m) (f:Nat) (caps:List AV) (g:It→Bool) (ps:List It) (hf:∀p∈ps,Spec Tryz.prog f (Args (eT p::caps)) m (eB (g p)) m) (hl:ps.length≤9223372036854775807):
 Spec Tryz.prog 152 (Args [.d (sT ps), .fn f [] caps]) m (eB (ps.any g)) m:=by
 (refine Spec.intro (C:=T.cfg [] []) (rs:= [.t 4]) (T.aq _ _) Tryz.func152 rfl rfl Tryz.ntmps152 Tryz.results152 (fun p hp=>⟨(bu.low hR p hp).1,bu.nest hR p hp⟩) (fun p hp=>⟨(bu.low hR p hp).2,bu.nest hR p hp⟩) (by kernel_rfl) ?_;intro X hX hP hC aM aN vals hA;refine ⟨_,by simp,hA, ?_⟩;have af:X.P.follows .mixedOrders=true:=(by rw [hP];exact T.mixed);clear aM aN)
 repeat' (first|fail|((first|((with_reducible (first|apply oA|apply oB));exact rfl;intro K hK)|(refine hK _ ?_;clear hK K)|((with_reducible (first|apply oG|apply oH));iterate 3 exact rfl)|((with_reducible apply oI);(iterate 2 exact rfl);intro K hK)|(with_reducible (first|apply wI|apply wJ|apply wK)));try simp only [go_sem,simprocAttr])|fail|(with_reducible (first|apply oC|apply oJ|exact oK|apply wA|apply wB|apply wC hX hC|apply wD hX hC|apply wE hX hC af|apply wF hX hC af|apply wG|apply wH|apply And.intro))|((with_reducible refine oD ?_ ?_);first|fail|kernel_rfl)|((with_reducible (first|apply oE|apply oF));(iterate 3 exact rfl);all_goals (intro h;first|(exact absurd h (by decide))|((try simp only [go_sem,simprocAttr] at h);(try with_reducible intro K hK);simp only [go_sem,simprocAttr])))|((first|((with_reducible apply wL);exact rfl)|((with_reducible apply wM);exact rfl));all_goals (try ((with_reducible intro h);first|(exact absurd h (by decide))|(try simp only [go_sem,simprocAttr] at h))))|omega|((first|(first|(refine aZ hX hC hP hR (ku hR f caps g ps hf hl) rfl rfl rfl ?_ ?_ rfl rfl ?_;(focus (simp only [go_sem,simprocAttr];done));(focus (first|(intro p hp;exact aK (bu.nd hR) hp)|(simp [go_sem,simprocAttr];done))))|(refine aZ hX hC hP hR (ku hR f caps g ps hf hl) rfl rfl rfl ?_ ?_ ?_ rfl ?_;(focus (simp only [go_sem,simprocAttr];done));(focus (first|(intro p hp;exact aK (bu.nd hR) hp)|(simp [go_sem,simprocAttr];done)));(focus (simp [go_sem,simprocAttr];done)))));try simp only [go_sem,simprocAttr])|(intro h))
 ·exact gR g ps
 ·exact fC hR
theorem ir (n:Int) (h0:0<n) (hl:n≤1000000):Spec Tryz.prog 154 (Args [.nil 96,eN n]) [] (.ref 10000) [(10000, .own 96 3 [])]:=by
 (refine Spec.fA (C:=T.cfg [] []) (rs:= [.t 4]) [(10000,25)] (T.aq _ _) Tryz.func154 rfl rfl Tryz.ntmps154 Tryz.results154 (by simp [AObj.isNest]) (by simp [AObj.isNest]) (by first|(simp [look];done)|(simp [asN];done)|(intro l hl;simp only [asN];repeat (rw [if_neg (fun e=>by subst e;simp [look] at hl)]))) (by first|(simp [look];done)|(simp [asN];done)|(intro l hl;simp only [asN];repeat (rw [if_neg (fun e=>by subst e;simp [look] at hl)]))) (by kernel_rfl) ?_;intro X hX hP hC aM aN vals hA;refine ⟨_,by simp,hA, ?_⟩;have af:X.P.follows .mixedOrders=true:=(by rw [hP];exact T.mixed);clear aM aN)
 repeat' (first|fail|((first|((with_reducible (first|apply oA|apply oB));exact rfl;intro K hK)|(refine hK _ ?_;clear hK K)|((with_reducible (first|apply oG|apply oH));iterate 3 exact rfl)|((with_reducible apply oI);(iterate 2 exact rfl);intro K hK)|(with_reducible (first|apply wI|apply wJ|apply wK)));try simp only [go_sem,simprocAttr])|fail|(with_reducible (first|apply oC|apply oJ|exact oK|apply wA|apply wB|apply wC hX hC|apply wD hX hC|apply wE hX hC af|apply wF hX hC af|apply wG|apply wH|apply And.intro))|((with_reducible refine oD ?_ ?_);first|fail|kernel_rfl)|((with_reducible (first|apply oE|apply oF));(iterate 3 exact rfl);all_goals (intro h;first|(exact absurd h (by decide))|((try simp only [go_sem,simprocAttr] at h);(try with_reducible intro K hK);simp only [go_sem,simprocAttr])))|((first|((with_reducible apply wL);exact rfl)|((with_reducible apply wM);exact rfl));all_goals (try ((with_reducible intro h);first|(exact absurd h (by decide))|(try simp only [go_sem,simprocAttr] at h))))|omega|((first|fail);try simp only [go_sem,simprocAttr])|(intro h))
def vT (ls:List (List It)):List (List D):=ls.map fun l=> [sT l]
theorem vT_length {ls:List (List It)} :(vT ls).length=ls.length:=by simp [vT]
theorem nO {ls:List (List It)} {k:Nat} (h:k<ls.length) (d:List D):(vT ls).getD k d= [sT (ls.getD k [])]:=by
 simp [vT,List.getD_eq_getElem?_getD,List.getElem?_eq_getElem h]
attribute [go_sem] vT_length
theorem rS {α:Type} {ls:List (List α)} {k:Nat} (h:k<ls.length):(ls.take (k+1)).flatten=(ls.take k).flatten++ls.getD k []:=by
 rw [List.take_add_one,List.flatten_append,List.getElem?_eq_getElem h,List.getD_eq_getElem?_getD,List.getElem?_eq_getElem h]
 simp
theorem nP {α:Type} {ls:List (List α)} {k:Nat} :(ls.take k).flatten.length≤ls.flatten.length:=by
 have:=congrArg (fun x=>x.flatten.length) (List.take_append_drop k ls)
 simp only [List.flatten_append,List.length_append] at this
 omega
theorem uY (ls:List (List It)) (hn:ls.length≤1000) (h0:0<ls.flatten.length) (hl:ls.flatten.length≤1000000):Spec Tryz.prog 139 (Args [.d (.sl 1 (vT ls))]) [] (.d (sT ls.flatten)) []:=by
 (refine Spec.intro (C:=T.cfg [] []) (rs:= [.t 2]) (T.aq _ _) Tryz.func139 rfl rfl Tryz.ntmps139 Tryz.results139 (by simp [AObj.isNest]) (by simp [AObj.isNest]) (by kernel_rfl) ?_;intro X hX hP hC aM aN vals hA;refine ⟨_,by simp,hA, ?_⟩;have af:X.P.follows .mixedOrders=true:=(by rw [hP];exact T.mixed);clear aM aN)
 repeat' (first|fail|((first|((with_reducible (first|apply oA|apply oB));exact rfl;intro K hK)|(refine hK _ ?_;clear hK K)|((with_reducible (first|apply oG|apply oH));iterate 3 exact rfl)|((with_reducible apply oI);(iterate 2 exact rfl);intro K hK)|(with_reducible (first|apply wI|apply wJ|apply wK)));try simp only [go_sem,simprocAttr])|fail|(with_reducible (first|apply oC|apply oJ|exact oK|apply wA|apply wB|apply wC hX hC|apply wD hX hC|apply wE hX hC af|apply wF hX hC af|apply wG|apply wH|apply And.intro))|((with_reducible refine oD ?_ ?_);first|fail|kernel_rfl)|((with_reducible (first|apply oE|apply oF));(iterate 3 exact rfl);all_goals (intro h;first|(exact absurd h (by decide))|((try simp only [go_sem,simprocAttr] at h);(try with_reducible intro K hK);simp only [go_sem,simprocAttr])))|((first|((with_reducible apply wL);exact rfl)|((with_reducible apply wM);exact rfl));all_goals (try ((with_reducible intro h);first|(exact absurd h (by decide))|(try simp only [go_sem,simprocAttr] at h))))|omega|((first|(refine az hX hC hP [(10000,33)] (ir (ls.flatten.length:Int) (by omega) (by omega)) rfl rfl rfl ?_ ?_ ?_ ?_ ?_ ?_ ?_ ?_ ?_ ?_ ?_ ?_ ?_ ?_;(focus (simp only [go_sem,simprocAttr];done));(iterate 12 (focus (simp [go_sem,simprocAttr];done)));simp only [go_sem,simprocAttr,List.map_cons,List.map_nil]));try simp only [go_sem,simprocAttr])|(intro h))
 refine an (fun k:Nat=>k≤ls.length) (fun k=>⟨[(0, .d (.sl 1 (vT ls))),(9, .d (.sl 1 (vT ls))),(10,eN ls.length),(11,eN k),(3,eN ((ls.take k).flatten.length))], []⟩) (fun k=>ls.length - k) 0 (by omega) ?_ ?_
 ·(refine Le.of ?_ ?_<;>simp [go_sem,simprocAttr])
 ·rintro k hk
  rcases Nat.lt_or_ge k ls.length with hlt|hge
  ·have hb:decide ((k:Int)<(ls.length:Int))=true:=decide_eq_true (by omega)
   have hv:=nO hlt
   have hf:=rS hlt
   have JM:=nP (ls:=ls) (k:=k)
   have FC:=nP (ls:=ls) (k:=k+1)
   rw [hf,List.length_append] at FC
   have hneg:decide (((ls.take k).flatten.length:Int)+((ls.getD k []).length:Int)<0)=false:=decide_eq_false (by omega)
   repeat' (first|fail|((first|((with_reducible (first|apply oA|apply oB));exact rfl;intro K hK)|(refine hK _ ?_;clear hK K)|((with_reducible (first|apply oG|apply oH));iterate 3 exact rfl)|((with_reducible apply oI);(iterate 2 exact rfl);intro K hK)|(with_reducible (first|apply wI|apply wJ|apply wK)));try simp only [go_sem,simprocAttr,hb,hv,hneg])|fail|(with_reducible (first|apply oC|apply oJ|exact oK|apply wA|apply wB|apply wC hX hC|apply wD hX hC|apply wE hX hC af|apply wF hX hC af|apply wG|apply wH|apply And.intro))|((with_reducible refine oD ?_ ?_);first|fail|kernel_rfl)|((with_reducible (first|apply oE|apply oF));(iterate 3 exact rfl);all_goals (intro h;first|(exact absurd h (by decide))|((try simp only [go_sem,simprocAttr,hb,hv,hneg] at h);(try with_reducible intro K hK);simp only [go_sem,simprocAttr,hb,hv,hneg])))|((first|((with_reducible apply wL);exact rfl)|((with_reducible apply wM);exact rfl));all_goals (try ((with_reducible intro h);first|(exact absurd h (by decide))|(try simp only [go_sem,simprocAttr,hb,hv,hneg] at h))))|omega|((first|(refine az hX hC hP [(10000,33)] (ir (ls.flatten.length:Int) (by omega) (by omega)) rfl rfl rfl ?_ ?_ ?_ ?_ ?_ ?_ ?_ ?_ ?_ ?_ ?_ ?_ ?_ ?_;(focus (simp only [go_sem,simprocAttr,hb,hv,hneg];done));(iterate 12 (focus (simp [go_sem,simprocAttr,hb,hv,hneg];done)));simp only [go_sem,simprocAttr,hb,hv,hneg,List.map_cons,List.map_nil]));try simp only [go_sem,simprocAttr,hb,hv,hneg])|(intro h))
   refine ⟨k+1,by omega, ?_,by omega⟩
   simp only [hf]
   refine Le.of ?_ ?_<;>simp [go_sem,simprocAttr,hb,hv,hneg]
  ·have hb:decide ((k:Int)<(ls.length:Int))=false:=decide_eq_false (by omega)
   have ht:ls.take k=ls:=List.take_of_length_le (by omega)
   repeat' (first|fail|((first|((with_reducible (first|apply oA|apply oB));exact rfl;intro K hK)|(refine hK _ ?_;clear hK K)|((with_reducible (first|apply oG|apply oH));iterate 3 exact rfl)|((with_reducible apply oI);(iterate 2 exact rfl);intro K hK)|(with_reducible (first|apply wI|apply wJ|apply wK)));try simp only [go_sem,simprocAttr,hb,ht])|fail|(with_reducible (first|apply oC|apply oJ|exact oK|apply wA|apply wB|apply wC hX hC|apply wD hX hC|apply wE hX hC af|apply wF hX hC af|apply wG|apply wH|apply And.intro))|((with_reducible refine oD ?_ ?_);first|fail|kernel_rfl)|((with_reducible (first|apply oE|apply oF));(iterate 3 exact rfl);all_goals (intro h;first|(exact absurd h (by decide))|((try simp only [go_sem,simprocAttr,hb,ht] at h);(try with_reducible intro K hK);simp only [go_sem,simprocAttr,hb,ht])))|((first|((with_reducible apply wL);exact rfl)|((with_reducible apply wM);exact rfl));all_goals (try ((with_reducible intro h);first|(exact absurd h (by decide))|(try simp only [go_sem,simprocAttr,hb,ht] at h))))|omega|((first|(refine az hX hC hP [(10000,33)] (ir (ls.flatten.length:Int) (by omega) (by omega)) rfl rfl rfl ?_ ?_ ?_ ?_ ?_ ?_ ?_ ?_ ?_ ?_ ?_ ?_ ?_ ?_;(focus (simp only [go_sem,simprocAttr,hb,ht];done));(iterate 12 (focus (simp [go_sem,simprocAttr,hb,ht];done)));simp only [go_sem,simprocAttr,hb,ht,List.map_cons,List.map_nil]));try simp only [go_sem,simprocAttr,hb,ht])|(intro h))
   refine an (fun k:Nat=>k≤ls.length) (fun k=>⟨[(25, .d (.sl 1 (vT ls))),(26,eN ls.length),(27,eN k),(6, .ref 33)], [(33, .own 96 3 ((ls.take k).flatten.map rT))]⟩) (fun k=>ls.length - k) 0 (by omega) ?_ ?_
   ·(refine Le.of ?_ ?_<;>simp [go_sem,simprocAttr,hb,ht])
   ·clear hb ht hk hge
    rintro k hk
    rcases Nat.lt_or_ge k ls.length with hlt|hge
    ·have hb:decide ((k:Int)<(ls.length:Int))=true:=decide_eq_true (by omega)
     have hv:=nO hlt
     have hf:=rS hlt
     have JM:=nP (ls:=ls) (k:=k)
     have FC:=nP (ls:=ls) (k:=k+1)
     rw [hf,List.length_append] at FC
     repeat' (first|fail|((first|((with_reducible (first|apply oA|apply oB));exact rfl;intro K hK)|(refine hK _ ?_;clear hK K)|((with_reducible (first|apply oG|apply oH));iterate 3 exact rfl)|((with_reducible apply oI);(iterate 2 exact rfl);intro K hK)|(with_reducible (first|apply wI|apply wJ|apply wK)));try simp only [go_sem,simprocAttr,hb,hv])|fail|(with_reducible (first|apply oC|apply oJ|exact oK|apply wA|apply wB|apply wC hX hC|apply wD hX hC|apply wE hX hC af|apply wF hX hC af|apply wG|apply wH|apply And.intro))|((with_reducible refine oD ?_ ?_);first|fail|kernel_rfl)|((with_reducible (first|apply oE|apply oF));(iterate 3 exact rfl);all_goals (intro h;first|(exact absurd h (by decide))|((try simp only [go_sem,simprocAttr,hb,hv] at h);(try with_reducible intro K hK);simp only [go_sem,simprocAttr,hb,hv])))|((first|((with_reducible apply wL);exact rfl)|((with_reducible apply wM);exact rfl));all_goals (try ((with_reducible intro h);first|(exact absurd h (by decide))|(try simp only [go_sem,simprocAttr,hb,hv] at h))))|omega|((first|(refine az hX hC hP [(10000,33)] (ir (ls.flatten.length:Int) (by omega) (by omega)) rfl rfl rfl ?_ ?_ ?_ ?_ ?_ ?_ ?_ ?_ ?_ ?_ ?_ ?_ ?_ ?_;(focus (simp only [go_sem,simprocAttr,hb,hv];done));(iterate 12 (focus (simp [go_sem,simprocAttr,hb,hv];done)));simp only [go_sem,simprocAttr,hb,hv,List.map_cons,List.map_nil]));try simp only [go_sem,simprocAttr,hb,hv])|(intro h))
     refine ⟨k+1,by omega, ?_,by omega⟩
     simp only [hf]
     refine Le.of ?_ ?_<;>simp [go_sem,simprocAttr,hb,hv]
    ·have hb:decide ((k:Int)<(ls.length:Int))=false:=decide_eq_false (by omega)
     have ht:ls.take k=ls:=List.take_of_length_le (by omega)
     repeat' (first|fail|((first|((with_reducible (first|apply oA|apply oB));exact rfl;intro K hK)|(refine hK _ ?_;clear hK K)|((with_reducible (first|apply oG|apply oH));iterate 3 exact rfl)|((with_reducible apply oI);(iterate 2 exact rfl);intro K hK)|(with_reducible (first|apply wI|apply wJ|apply wK)));try simp only [go_sem,simprocAttr,hb,ht])|fail|(with_reducible (first|apply oC|apply oJ|exact oK|apply wA|apply wB|apply wC hX hC|apply wD hX hC|apply wE hX hC af|apply wF hX hC af|apply wG|apply wH|apply And.intro))|((with_reducible refine oD ?_ ?_);first|fail|kernel_rfl)|((with_reducible (first|apply oE|apply oF));(iterate 3 exact rfl);all_goals (intro h;first|(exact absurd h (by decide))|((try simp only [go_sem,simprocAttr,hb,ht] at h);(try with_reducible intro K hK);simp only [go_sem,simprocAttr,hb,ht])))|((first|((with_reducible apply wL);exact rfl)|((with_reducible apply wM);exact rfl));all_goals (try ((with_reducible intro h);first|(exact absurd h (by decide))|(try simp only [go_sem,simprocAttr,hb,ht] at h))))|omega|((first|(refine az hX hC hP [(10000,33)] (ir (ls.flatten.length:Int) (by omega) (by omega)) rfl rfl rfl ?_ ?_ ?_ ?_ ?_ ?_ ?_ ?_ ?_ ?_ ?_ ?_ ?_ ?_;(focus (simp only [go_sem,simprocAttr,hb,ht];done));(iterate 12 (focus (simp [go_sem,simprocAttr,hb,ht];done)));simp only [go_sem,simprocAttr,hb,ht,List.map_cons,List.map_nil]));try simp only [go_sem,simprocAttr,hb,ht])|(intro h))
end Go.Ab
end
section
namespace Go.Ab
open Go.Proofs
attribute [local congr] ACall.congr
set_option maxRecDepth 10000
set_option maxHeartbeats 1000000
structure Fr where
 row:List It
 pl:List Int
def fG (g:Gr) (f:Fr):D:= .pt [sT f.row,vw g,sI f.pl]
def cD (row:List It) (x:Int):Nat→Int × Int × Int
 |0=>(-1,0,0)
 |k+1=>if (row.getD k (0,0,0)).2.2=x then (if (cD row x k).1= -1 then (k:Int) else (cD row x k).1,(k:Int)+1,(cD row x k).2.2+1) else cD row x k
def aS (row:List It) (x:Int):Int × Int × Int:=cD row x row.length
theorem iu {row:List It} {x:Int} {k:Nat} :cD row x (k+1)=if (row.getD k (0,0,0)).2.2=x then (if (cD row x k).1= -1 then (k:Int) else (cD row x k).1,(k:Int)+1,(cD row x k).2.2+1) else cD row x k:=rfl
theorem cM {row:List It} {x:Int} :∀k:Nat,(cD row x k=(-1,0,0)∧∀j,j<k→(row.getD j (0,0,0)).2.2≠x)∨
 ∃a b c:Nat,cD row x k=((a:Int),(b:Int),(c:Int))∧a<b∧b≤k∧0<c∧c≤k∧(row.getD a (0,0,0)).2.2=x∧(row.getD (b - 1) (0,0,0)).2.2=x∧(∀j,j<a→(row.getD j (0,0,0)).2.2≠x)∧(∀j,b≤j→j<k→(row.getD j (0,0,0)).2.2≠x)
 |0=> .inl ⟨rfl,fun j hj=>by omega⟩
 |k+1=>by
  rw [iu]
  by_cases hx:(row.getD k (0,0,0)).2.2=x
  ·rw [if_pos hx]
   right
   rcases cM (row:=row) (x:=x) k with ⟨h1,h2⟩|⟨a,b,c,h1,h2,h3,h4,h5,h6,h7,h8,h9⟩
   ·refine ⟨k,k+1,1,by rw [h1];rfl,by omega,by omega,by omega,by omega,hx,hx,h2,fun j h1 h2=>by omega⟩
   ·refine ⟨a,k+1,c+1,by rw [h1];simp only [Prod.mk.injEq];exact ⟨by rw [if_neg (by omega)],by omega,by omega⟩,by omega,by omega,by omega,by omega,h6,hx,h8,fun j h1 h2=>by omega⟩
  ·rw [if_neg hx]
   rcases cM (row:=row) (x:=x) k with ⟨h1,h2⟩|⟨a,b,c,h1,h2,h3,h4,h5,h6,h7,h8,h9⟩
   ·refine .inl ⟨h1,fun j hj=> ?_⟩
    by_cases hjk:j=k
    ·subst hjk;exact hx
    ·exact h2 j (by omega)
   ·refine .inr ⟨a,b,c,h1,h2,by omega,h4,by omega,h6,h7,h8,fun j N5 Ph=> ?_⟩
    by_cases hjk:j=k
    ·subst hjk;exact hx
    ·exact h9 j N5 (by omega)
theorem dU (ds:List D) (row:List It) (x:Int) (hl:row.length≤1000000):Spec Tryz.prog 113 (Args [.d (.pt (sT row::ds)),eN x]) [] (.tup [eN (aS row x).1,eN (aS row x).2.1,eN (aS row x).2.2]) []:=by
 (refine Spec.intro (C:=T.cfg [] []) (rs:= [.t 4, .t 5, .t 6]) (T.aq _ _) Tryz.func113 rfl rfl Tryz.ntmps113 Tryz.results113 (by simp [AObj.isNest]) (by simp [AObj.isNest]) (by kernel_rfl) ?_;intro X hX hP hC aM aN vals hA;refine ⟨_,by simp,hA, ?_⟩;have af:X.P.follows .mixedOrders=true:=(by rw [hP];exact T.mixed);clear aM aN)
 repeat' (first|fail|((first|((with_reducible (first|apply oA|apply oB));exact rfl;intro K hK)|(refine hK _ ?_;clear hK K)|((with_reducible (first|apply oG|apply oH));iterate 3 exact rfl)|((with_reducible apply oI);(iterate 2 exact rfl);intro K hK)|(with_reducible (first|apply wI|apply wJ|apply wK)));try simp only [go_sem,simprocAttr,aS])|fail|(with_reducible (first|apply oC|apply oJ|exact oK|apply wA|apply wB|apply wC hX hC|apply wD hX hC|apply wE hX hC af|apply wF hX hC af|apply wG|apply wH|apply And.intro))|((with_reducible refine oD ?_ ?_);first|fail|kernel_rfl)|((with_reducible (first|apply oE|apply oF));(iterate 3 exact rfl);all_goals (intro h;first|(exact absurd h (by decide))|((try simp only [go_sem,simprocAttr,aS] at h);(try with_reducible intro K hK);simp only [go_sem,simprocAttr,aS])))|((first|((with_reducible apply wL);exact rfl)|((with_reducible apply wM);exact rfl));all_goals (try ((with_reducible intro h);first|(exact absurd h (by decide))|(try simp only [go_sem,simprocAttr,aS] at h))))|omega|((first|fail);try simp only [go_sem,simprocAttr,aS])|(intro h))
 refine an (fun k:Nat=>k≤row.length) (fun k=>⟨[(1,eN x),(12, .d (sT row)),(13,eN row.length),(14,eN k),(4,eN (cD row x k).1),(5,eN (cD row x k).2.1),(6,eN (cD row x k).2.2)], []⟩) (fun k=>row.length - k) 0 (by simp) ?_ ?_
 ·refine Le.of ?_ ?_<;>simp [go_sem,simprocAttr,aS,cD]
 rintro k hk
 rcases Nat.lt_or_ge k row.length with hlt|hge
 ·have hb:decide ((k:Int)<(row.length:Int))=true:=decide_eq_true (by omega)
  have hok:=cM (row:=row) (x:=x) k
  have hc: -1≤(cD row x k).2.2∧(cD row x k).2.2≤k:=by
   rcases hok with ⟨h1,_⟩|⟨a,b,c,h1,_,_,_,_,_⟩<;>rw [h1]<;>simp only<;>omega
  have eH:=iu (row:=row) (x:=x) (k:=k)
  repeat' (first|fail|((first|((with_reducible (first|apply oA|apply oB));exact rfl;intro K hK)|(refine hK _ ?_;clear hK K)|((with_reducible (first|apply oG|apply oH));iterate 3 exact rfl)|((with_reducible apply oI);(iterate 2 exact rfl);intro K hK)|(with_reducible (first|apply wI|apply wJ|apply wK)));try simp only [go_sem,simprocAttr,hb])|fail|(with_reducible (first|apply oC|apply oJ|exact oK|apply wA|apply wB|apply wC hX hC|apply wD hX hC|apply wE hX hC af|apply wF hX hC af|apply wG|apply wH|apply And.intro))|((with_reducible refine oD ?_ ?_);first|fail|kernel_rfl)|((with_reducible (first|apply oE|apply oF));(iterate 3 exact rfl);all_goals (intro h;first|(exact absurd h (by decide))|((try simp only [go_sem,simprocAttr,hb] at h);(try with_reducible intro K hK);simp only [go_sem,simprocAttr,hb])))|((first|((with_reducible apply wL);exact rfl)|((with_reducible apply wM);exact rfl));all_goals (try ((with_reducible intro h);first|(exact absurd h (by decide))|(try simp only [go_sem,simprocAttr,hb] at h))))|omega|((first|fail);try simp only [go_sem,simprocAttr,hb])|(intro h))
  all_goals (first|rw [if_neg (by assumption)] at eH|(rw [if_pos (by assumption)] at eH;first|rw [if_pos (by assumption)] at eH|rw [if_neg (by assumption)] at eH))
  all_goals (refine ⟨k+1,by omega, ?_,by omega⟩;refine Le.of ?_ ?_<;>simp [go_sem,simprocAttr,hb,eH])
 ·have hb:decide ((k:Int)<(row.length:Int))=false:=decide_eq_false (by omega)
  obtain rfl:k=row.length:=by omega
  repeat' (first|fail|((first|((with_reducible (first|apply oA|apply oB));exact rfl;intro K hK)|(refine hK _ ?_;clear hK K)|((with_reducible (first|apply oG|apply oH));iterate 3 exact rfl)|((with_reducible apply oI);(iterate 2 exact rfl);intro K hK)|(with_reducible (first|apply wI|apply wJ|apply wK)));try simp only [go_sem,simprocAttr,hb,aS])|fail|(with_reducible (first|apply oC|apply oJ|exact oK|apply wA|apply wB|apply wC hX hC|apply wD hX hC|apply wE hX hC af|apply wF hX hC af|apply wG|apply wH|apply And.intro))|((with_reducible refine oD ?_ ?_);first|fail|kernel_rfl)|((with_reducible (first|apply oE|apply oF));(iterate 3 exact rfl);all_goals (intro h;first|(exact absurd h (by decide))|((try simp only [go_sem,simprocAttr,hb,aS] at h);(try with_reducible intro K hK);simp only [go_sem,simprocAttr,hb,aS])))|((first|((with_reducible apply wL);exact rfl)|((with_reducible apply wM);exact rfl));all_goals (try ((with_reducible intro h);first|(exact absurd h (by decide))|(try simp only [go_sem,simprocAttr,hb,aS] at h))))|omega|((first|fail);try simp only [go_sem,simprocAttr,hb,aS])|(intro h))
def j5 (x:Int) (t:It):Bool:=decide (t.2.2≠x)&&decide (t.2.2≠ -1)
def pM (row:List It) (x:Int) (a b:Nat):Bool:= !((row.take b).drop a).any (j5 x)
theorem Ak (x:Int):bu [(10000, .rob [eN x])]:=⟨by simp [AObj.ro],by simp [nodupM,look],by simp,by simp [AObj.ids,AV.ids,AV.idss,eN]⟩
theorem yb (x:Int) (t:It):Spec Tryz.prog 153 (Args [eT t, .ptr 10000 0]) [(10000, .rob [eN x])] (eB (j5 x t)) [(10000, .rob [eN x])]:=by
 (refine Spec.intro (C:=T.cfg [] []) (rs:= [.t 3]) (T.aq _ _) Tryz.func153 rfl rfl Tryz.ntmps153 Tryz.results153 (fun p hp=>⟨(bu.low (Ak x) p hp).1,bu.nest (Ak x) p hp⟩) (fun p hp=>⟨(bu.low (Ak x) p hp).2,bu.nest (Ak x) p hp⟩) (by kernel_rfl) ?_;intro X hX hP hC aM aN vals hA;refine ⟨_,by simp,hA, ?_⟩;have af:X.P.follows .mixedOrders=true:=(by rw [hP];exact T.mixed);clear aM aN)
 repeat' (first|fail|((first|((with_reducible (first|apply oA|apply oB));exact rfl;intro K hK)|(refine hK _ ?_;clear hK K)|((with_reducible (first|apply oG|apply oH));iterate 3 exact rfl)|((with_reducible apply oI);(iterate 2 exact rfl);intro K hK)|(with_reducible (first|apply wI|apply wJ|apply wK)));try simp only [go_sem,simprocAttr])|fail|(with_reducible (first|apply oC|apply oJ|exact oK|apply wA|apply wB|apply wC hX hC|apply wD hX hC|apply wE hX hC af|apply wF hX hC af|apply wG|apply wH|apply And.intro))|((with_reducible refine oD ?_ ?_);first|fail|kernel_rfl)|((with_reducible (first|apply oE|apply oF));(iterate 3 exact rfl);all_goals (intro h;first|(exact absurd h (by decide))|((try simp only [go_sem,simprocAttr] at h);(try with_reducible intro K hK);simp only [go_sem,simprocAttr])))|((first|((with_reducible apply wL);exact rfl)|((with_reducible apply wM);exact rfl));all_goals (try ((with_reducible intro h);first|(exact absurd h (by decide))|(try simp only [go_sem,simprocAttr] at h))))|omega|((first|fail);try simp only [go_sem,simprocAttr])|(intro h))
 all_goals (simp only [j5];first|exact fC (Ak x)|simp [*])
theorem fT (ds:List D) (row:List It) (x:Int) (a b:Nat) (hab:a≤b) (hb:b≤row.length) (hl:row.length≤1000000):Spec Tryz.prog 138 (Args [.d (.pt (sT row::ds)),eN x,eN a,eN b]) [] (eB (pM row x a b)) []:=by
 have zK:sT ((row.take b).drop a)= .sl 3 (((row.map rT).take b).drop a):=by simp [sT,List.map_take,List.map_drop]
 have kC:((row.take b).drop a).length≤9223372036854775807:=by simp;omega
 (refine Spec.intro (C:=T.cfg [] []) (rs:= [.t 8]) (T.aq _ _) Tryz.func138 rfl rfl Tryz.ntmps138 Tryz.results138 (by simp [AObj.isNest]) (by simp [AObj.isNest]) (by kernel_rfl) ?_;intro X hX hP hC aM aN vals hA;refine ⟨_,by simp,hA, ?_⟩;have af:X.P.follows .mixedOrders=true:=(by rw [hP];exact T.mixed);clear aM aN)
 repeat' (first|fail|((first|((with_reducible (first|apply oA|apply oB));exact rfl;intro K hK)|(refine hK _ ?_;clear hK K)|((with_reducible (first|apply oG|apply oH));iterate 3 exact rfl)|((with_reducible apply oI);(iterate 2 exact rfl);intro K hK)|(with_reducible (first|apply wI|apply wJ|apply wK)));try simp only [go_sem,simprocAttr,List.map_take,List.map_drop])|fail|(with_reducible (first|apply oC|apply oJ|exact oK|apply wA|apply wB|apply wC hX hC|apply wD hX hC|apply wE hX hC af|apply wF hX hC af|apply wG|apply wH|apply And.intro))|((with_reducible refine oD ?_ ?_);first|fail|kernel_rfl)|((with_reducible (first|apply oE|apply oF));(iterate 3 exact rfl);all_goals (intro h;first|(exact absurd h (by decide))|((try simp only [go_sem,simprocAttr,List.map_take,List.map_drop] at h);(try with_reducible intro K hK);simp only [go_sem,simprocAttr,List.map_take,List.map_drop])))|((first|((with_reducible apply wL);exact rfl)|((with_reducible apply wM);exact rfl));all_goals (try ((with_reducible intro h);first|(exact absurd h (by decide))|(try simp only [go_sem,simprocAttr,List.map_take,List.map_drop] at h))))|omega|((first|(refine aQ hX hC hP [(10000,5)] (mP (Ak x) _ [.ptr 10000 0] (j5 x) ((row.take b).drop a) (fun t _=>yb x t) kC) rfl rfl rfl ?_ ?_ ?_ ?_ ?_ ?_ rfl rfl ?_ ?_;(focus (simp only [go_sem,simprocAttr,List.map_take,List.map_drop];done));(iterate 6 (focus (simp [go_sem,simprocAttr,List.map_take,List.map_drop];done)));simp only [go_sem,simprocAttr,List.map_take,List.map_drop,List.map_cons,List.map_nil]));try simp only [go_sem,simprocAttr,List.map_take,List.map_drop])|(intro h))
 rfl
end Go.Ab
end
section
namespace Go.Ab
open Go.Proofs
attribute [local congr] ACall.congr
set_option maxRecDepth 10000
set_option maxHeartbeats 2000000
def fU (g:Gr) (f:Fr) (x:Int):Bool:=
 if x<0∨g.n≤x∨x∈f.pl then false else
 decide ((aS f.row x).2.2=((bp (·.2) g x).length:Int))&&(decide ((bp (·.2) g x).length=0)||pM f.row x (aS f.row x).1.toNat (aS f.row x).2.1.toNat)
theorem yc {f:Edge→Int} {g:Gr} {x:Int} :(bp f g x).length≤g.es.length:=by
 unfold bp
 split
 ·exact jw
 ·simp
theorem mQ (g:Gr) (hm:aU g=true) (f:Fr) (x:Int) (hr:f.row.length≤1000000) (gv:f.pl.length≤1000000):Spec Tryz.prog 112 (Args [.d (fG g f),eN x]) [] (eB (fU g f x)) []:=by
 have hp:f.pl.length≤9223372036854775807:=by omega
 have hn:=aY hm
 unfold fG
 by_cases hx:x<0∨g.n≤x∨x∈f.pl
 ·have hR:fU g f x=false:=if_pos hx
  (refine Spec.intro (C:=T.cfg [] []) (rs:= [.t 4]) (T.aq _ _) Tryz.func112 rfl rfl Tryz.ntmps112 Tryz.results112 (by simp [AObj.isNest]) (by simp [AObj.isNest]) (by kernel_rfl) ?_;intro X hX hP hC aM aN vals hA;refine ⟨_,by simp,hA, ?_⟩;have af:X.P.follows .mixedOrders=true:=(by rw [hP];exact T.mixed);clear aM aN)
  by_cases h1:x<0
  ·have aj:decide (x<0)=true:=decide_eq_true h1
   repeat' (first|fail|((first|((with_reducible (first|apply oA|apply oB));exact rfl;intro K hK)|(refine hK _ ?_;clear hK K)|((with_reducible (first|apply oG|apply oH));iterate 3 exact rfl)|((with_reducible apply oI);(iterate 2 exact rfl);intro K hK)|(with_reducible (first|apply wI|apply wJ|apply wK)));try simp only [go_sem,simprocAttr,ah,hR,aj])|fail|(with_reducible (first|apply oC|apply oJ|exact oK|apply wA|apply wB|apply wC hX hC|apply wD hX hC|apply wE hX hC af|apply wF hX hC af|apply wG|apply wH|apply And.intro))|((with_reducible refine oD ?_ ?_);first|fail|kernel_rfl)|((with_reducible (first|apply oE|apply oF));(iterate 3 exact rfl);all_goals (intro h;first|(exact absurd h (by decide))|((try simp only [go_sem,simprocAttr,ah,hR,aj] at h);(try with_reducible intro K hK);simp only [go_sem,simprocAttr,ah,hR,aj])))|((first|((with_reducible apply wL);exact rfl)|((with_reducible apply wM);exact rfl));all_goals (try ((with_reducible intro h);first|(exact absurd h (by decide))|(try simp only [go_sem,simprocAttr,ah,hR,aj] at h))))|omega|((first|first|refine aa hX hC hP (jx g hm x) rfl rfl rfl (by simp only [go_sem,simprocAttr,ah,hR,aj]) rfl ?_|refine aa hX hC hP (bn f.pl x hp) rfl rfl rfl (by simp only [go_sem,simprocAttr,ah,hR,aj]) rfl ?_|refine aa hX hC hP (dU [vw g,sI f.pl] f.row x hr) rfl rfl rfl (by simp only [go_sem,simprocAttr,ah,hR,aj]) rfl ?_|refine aa hX hC hP (fT [vw g,sI f.pl] f.row x a b hab iO hr) rfl rfl rfl (by simp only [go_sem,simprocAttr,ah,hR,aj]) rfl ?_);try simp only [go_sem,simprocAttr,ah,hR,aj])|(intro h))
  have aj:decide (x<0)=false:=decide_eq_false h1
  by_cases h2:g.n≤x
  ·have ak:decide (g.n≤x)=true:=decide_eq_true h2
   repeat' (first|fail|((first|((with_reducible (first|apply oA|apply oB));exact rfl;intro K hK)|(refine hK _ ?_;clear hK K)|((with_reducible (first|apply oG|apply oH));iterate 3 exact rfl)|((with_reducible apply oI);(iterate 2 exact rfl);intro K hK)|(with_reducible (first|apply wI|apply wJ|apply wK)));try simp only [go_sem,simprocAttr,ah,hR,aj,ak])|fail|(with_reducible (first|apply oC|apply oJ|exact oK|apply wA|apply wB|apply wC hX hC|apply wD hX hC|apply wE hX hC af|apply wF hX hC af|apply wG|apply wH|apply And.intro))|((with_reducible refine oD ?_ ?_);first|fail|kernel_rfl)|((with_reducible (first|apply oE|apply oF));(iterate 3 exact rfl);all_goals (intro h;first|(exact absurd h (by decide))|((try simp only [go_sem,simprocAttr,ah,hR,aj,ak] at h);(try with_reducible intro K hK);simp only [go_sem,simprocAttr,ah,hR,aj,ak])))|((first|((with_reducible apply wL);exact rfl)|((with_reducible apply wM);exact rfl));all_goals (try ((with_reducible intro h);first|(exact absurd h (by decide))|(try simp only [go_sem,simprocAttr,ah,hR,aj,ak] at h))))|omega|((first|first|refine aa hX hC hP (jx g hm x) rfl rfl rfl (by simp only [go_sem,simprocAttr,ah,hR,aj,ak]) rfl ?_|refine aa hX hC hP (bn f.pl x hp) rfl rfl rfl (by simp only [go_sem,simprocAttr,ah,hR,aj,ak]) rfl ?_|refine aa hX hC hP (dU [vw g,sI f.pl] f.row x hr) rfl rfl rfl (by simp only [go_sem,simprocAttr,ah,hR,aj,ak]) rfl ?_|refine aa hX hC hP (fT [vw g,sI f.pl] f.row x a b hab iO hr) rfl rfl rfl (by simp only [go_sem,simprocAttr,ah,hR,aj,ak]) rfl ?_);try simp only [go_sem,simprocAttr,ah,hR,aj,ak])|(intro h))
  have ak:decide (g.n≤x)=false:=decide_eq_false h2
  have h3:x∈f.pl:=by rcases hx with h|h|h;exact absurd h h1;exact absurd h h2;exact h
  have aX:decide (x∈f.pl)=true:=decide_eq_true h3
  repeat' (first|fail|((first|((with_reducible (first|apply oA|apply oB));exact rfl;intro K hK)|(refine hK _ ?_;clear hK K)|((with_reducible (first|apply oG|apply oH));iterate 3 exact rfl)|((with_reducible apply oI);(iterate 2 exact rfl);intro K hK)|(with_reducible (first|apply wI|apply wJ|apply wK)));try simp only [go_sem,simprocAttr,ah,hR,aj,ak,aX])|fail|(with_reducible (first|apply oC|apply oJ|exact oK|apply wA|apply wB|apply wC hX hC|apply wD hX hC|apply wE hX hC af|apply wF hX hC af|apply wG|apply wH|apply And.intro))|((with_reducible refine oD ?_ ?_);first|fail|kernel_rfl)|((with_reducible (first|apply oE|apply oF));(iterate 3 exact rfl);all_goals (intro h;first|(exact absurd h (by decide))|((try simp only [go_sem,simprocAttr,ah,hR,aj,ak,aX] at h);(try with_reducible intro K hK);simp only [go_sem,simprocAttr,ah,hR,aj,ak,aX])))|((first|((with_reducible apply wL);exact rfl)|((with_reducible apply wM);exact rfl));all_goals (try ((with_reducible intro h);first|(exact absurd h (by decide))|(try simp only [go_sem,simprocAttr,ah,hR,aj,ak,aX] at h))))|omega|((first|first|refine aa hX hC hP (jx g hm x) rfl rfl rfl (by simp only [go_sem,simprocAttr,ah,hR,aj,ak,aX]) rfl ?_|refine aa hX hC hP (bn f.pl x hp) rfl rfl rfl (by simp only [go_sem,simprocAttr,ah,hR,aj,ak,aX]) rfl ?_|refine aa hX hC hP (dU [vw g,sI f.pl] f.row x hr) rfl rfl rfl (by simp only [go_sem,simprocAttr,ah,hR,aj,ak,aX]) rfl ?_|refine aa hX hC hP (fT [vw g,sI f.pl] f.row x a b hab iO hr) rfl rfl rfl (by simp only [go_sem,simprocAttr,ah,hR,aj,ak,aX]) rfl ?_);try simp only [go_sem,simprocAttr,ah,hR,aj,ak,aX])|(intro h))
 ·have aj:decide (x<0)=false:=decide_eq_false fun h=>hx (.inl h)
  have ak:decide (g.n≤x)=false:=decide_eq_false fun h=>hx (.inr (.inl h))
  have aX:decide (x∈f.pl)=false:=decide_eq_false fun h=>hx (.inr (.inr h))
  have hR:fU g f x=(decide ((aS f.row x).2.2=((bp (·.2) g x).length:Int))&&(decide ((bp (·.2) g x).length=0)||pM f.row x (aS f.row x).1.toNat (aS f.row x).2.1.toNat)):=if_neg hx
  by_cases h4:(aS f.row x).2.2=((bp (·.2) g x).length:Int)
  ·have hb4:decide ((aS f.row x).2.2=((bp (·.2) g x).length:Int))=true:=decide_eq_true h4
   by_cases h5:(bp (·.2) g x).length=0
   ·have iX:decide (((bp (·.2) g x).length:Int)=0)=true:=decide_eq_true (by omega)
    rw [hb4,decide_eq_true h5] at hR
    (refine Spec.intro (C:=T.cfg [] []) (rs:= [.t 4]) (T.aq _ _) Tryz.func112 rfl rfl Tryz.ntmps112 Tryz.results112 (by simp [AObj.isNest]) (by simp [AObj.isNest]) (by kernel_rfl) ?_;intro X hX hP hC aM aN vals hA;refine ⟨_,by simp,hA, ?_⟩;have af:X.P.follows .mixedOrders=true:=(by rw [hP];exact T.mixed);clear aM aN)
    repeat' (first|fail|((first|((with_reducible (first|apply oA|apply oB));exact rfl;intro K hK)|(refine hK _ ?_;clear hK K)|((with_reducible (first|apply oG|apply oH));iterate 3 exact rfl)|((with_reducible apply oI);(iterate 2 exact rfl);intro K hK)|(with_reducible (first|apply wI|apply wJ|apply wK)));try simp only [go_sem,simprocAttr,ah,hR,aj,ak,aX,hb4,iX])|fail|(with_reducible (first|apply oC|apply oJ|exact oK|apply wA|apply wB|apply wC hX hC|apply wD hX hC|apply wE hX hC af|apply wF hX hC af|apply wG|apply wH|apply And.intro))|((with_reducible refine oD ?_ ?_);first|fail|kernel_rfl)|((with_reducible (first|apply oE|apply oF));(iterate 3 exact rfl);all_goals (intro h;first|(exact absurd h (by decide))|((try simp only [go_sem,simprocAttr,ah,hR,aj,ak,aX,hb4,iX] at h);(try with_reducible intro K hK);simp only [go_sem,simprocAttr,ah,hR,aj,ak,aX,hb4,iX])))|((first|((with_reducible apply wL);exact rfl)|((with_reducible apply wM);exact rfl));all_goals (try ((with_reducible intro h);first|(exact absurd h (by decide))|(try simp only [go_sem,simprocAttr,ah,hR,aj,ak,aX,hb4,iX] at h))))|omega|((first|first|refine aa hX hC hP (jx g hm x) rfl rfl rfl (by simp only [go_sem,simprocAttr,ah,hR,aj,ak,aX,hb4,iX]) rfl ?_|refine aa hX hC hP (bn f.pl x hp) rfl rfl rfl (by simp only [go_sem,simprocAttr,ah,hR,aj,ak,aX,hb4,iX]) rfl ?_|refine aa hX hC hP (dU [vw g,sI f.pl] f.row x hr) rfl rfl rfl (by simp only [go_sem,simprocAttr,ah,hR,aj,ak,aX,hb4,iX]) rfl ?_|refine aa hX hC hP (fT [vw g,sI f.pl] f.row x a b hab iO hr) rfl rfl rfl (by simp only [go_sem,simprocAttr,ah,hR,aj,ak,aX,hb4,iX]) rfl ?_);try simp only [go_sem,simprocAttr,ah,hR,aj,ak,aX,hb4,iX])|(intro h))
   ·have iX:decide (((bp (·.2) g x).length:Int)=0)=false:=decide_eq_false (by omega)
    rcases cM (row:=f.row) (x:=x) f.row.length with ⟨h6,_⟩|⟨a,b,c,h6,hab,iO,_⟩
    ·exfalso
     have:(aS f.row x).2.2=0:=by unfold aS;rw [h6]
     omega
    ·have hsp:aS f.row x=((a:Int),(b:Int),(c:Int)):=h6
     have hab:a≤b:=by omega
     rw [hb4,decide_eq_false h5,hsp] at hR
     simp only [Bool.true_and,Bool.false_or,Int.toNat_natCast] at hR
     rw [hsp] at hb4
     (refine Spec.intro (C:=T.cfg [] []) (rs:= [.t 4]) (T.aq _ _) Tryz.func112 rfl rfl Tryz.ntmps112 Tryz.results112 (by simp [AObj.isNest]) (by simp [AObj.isNest]) (by kernel_rfl) ?_;intro X hX hP hC aM aN vals hA;refine ⟨_,by simp,hA, ?_⟩;have af:X.P.follows .mixedOrders=true:=(by rw [hP];exact T.mixed);clear aM aN)
     repeat' (first|fail|((first|((with_reducible (first|apply oA|apply oB));exact rfl;intro K hK)|(refine hK _ ?_;clear hK K)|((with_reducible (first|apply oG|apply oH));iterate 3 exact rfl)|((with_reducible apply oI);(iterate 2 exact rfl);intro K hK)|(with_reducible (first|apply wI|apply wJ|apply wK)));try simp only [go_sem,simprocAttr,ah,hR,aj,ak,aX,hb4,iX,hsp])|fail|(with_reducible (first|apply oC|apply oJ|exact oK|apply wA|apply wB|apply wC hX hC|apply wD hX hC|apply wE hX hC af|apply wF hX hC af|apply wG|apply wH|apply And.intro))|((with_reducible refine oD ?_ ?_);first|fail|kernel_rfl)|((with_reducible (first|apply oE|apply oF));(iterate 3 exact rfl);all_goals (intro h;first|(exact absurd h (by decide))|((try simp only [go_sem,simprocAttr,ah,hR,aj,ak,aX,hb4,iX,hsp] at h);(try with_reducible intro K hK);simp only [go_sem,simprocAttr,ah,hR,aj,ak,aX,hb4,iX,hsp])))|((first|((with_reducible apply wL);exact rfl)|((with_reducible apply wM);exact rfl));all_goals (try ((with_reducible intro h);first|(exact absurd h (by decide))|(try simp only [go_sem,simprocAttr,ah,hR,aj,ak,aX,hb4,iX,hsp] at h))))|omega|((first|first|refine aa hX hC hP (jx g hm x) rfl rfl rfl (by simp only [go_sem,simprocAttr,ah,hR,aj,ak,aX,hb4,iX,hsp]) rfl ?_|refine aa hX hC hP (bn f.pl x hp) rfl rfl rfl (by simp only [go_sem,simprocAttr,ah,hR,aj,ak,aX,hb4,iX,hsp]) rfl ?_|refine aa hX hC hP (dU [vw g,sI f.pl] f.row x hr) rfl rfl rfl (by simp only [go_sem,simprocAttr,ah,hR,aj,ak,aX,hb4,iX,hsp]) rfl ?_|refine aa hX hC hP (fT [vw g,sI f.pl] f.row x a b hab iO hr) rfl rfl rfl (by simp only [go_sem,simprocAttr,ah,hR,aj,ak,aX,hb4,iX,hsp]) rfl ?_);try simp only [go_sem,simprocAttr,ah,hR,aj,ak,aX,hb4,iX,hsp])|(intro h))
  ·have hb4:decide ((aS f.row x).2.2=((bp (·.2) g x).length:Int))=false:=decide_eq_false h4
   rw [hb4,Bool.false_and] at hR
   (refine Spec.intro (C:=T.cfg [] []) (rs:= [.t 4]) (T.aq _ _) Tryz.func112 rfl rfl Tryz.ntmps112 Tryz.results112 (by simp [AObj.isNest]) (by simp [AObj.isNest]) (by kernel_rfl) ?_;intro X hX hP hC aM aN vals hA;refine ⟨_,by simp,hA, ?_⟩;have af:X.P.follows .mixedOrders=true:=(by rw [hP];exact T.mixed);clear aM aN)
   repeat' (first|fail|((first|((with_reducible (first|apply oA|apply oB));exact rfl;intro K hK)|(refine hK _ ?_;clear hK K)|((with_reducible (first|apply oG|apply oH));iterate 3 exact rfl)|((with_reducible apply oI);(iterate 2 exact rfl);intro K hK)|(with_reducible (first|apply wI|apply wJ|apply wK)));try simp only [go_sem,simprocAttr,ah,hR,aj,ak,aX,hb4])|fail|(with_reducible (first|apply oC|apply oJ|exact oK|apply wA|apply wB|apply wC hX hC|apply wD hX hC|apply wE hX hC af|apply wF hX hC af|apply wG|apply wH|apply And.intro))|((with_reducible refine oD ?_ ?_);first|fail|kernel_rfl)|((with_reducible (first|apply oE|apply oF));(iterate 3 exact rfl);all_goals (intro h;first|(exact absurd h (by decide))|((try simp only [go_sem,simprocAttr,ah,hR,aj,ak,aX,hb4] at h);(try with_reducible intro K hK);simp only [go_sem,simprocAttr,ah,hR,aj,ak,aX,hb4])))|((first|((with_reducible apply wL);exact rfl)|((with_reducible apply wM);exact rfl));all_goals (try ((with_reducible intro h);first|(exact absurd h (by decide))|(try simp only [go_sem,simprocAttr,ah,hR,aj,ak,aX,hb4] at h))))|omega|((first|first|refine aa hX hC hP (jx g hm x) rfl rfl rfl (by simp only [go_sem,simprocAttr,ah,hR,aj,ak,aX,hb4]) rfl ?_|refine aa hX hC hP (bn f.pl x hp) rfl rfl rfl (by simp only [go_sem,simprocAttr,ah,hR,aj,ak,aX,hb4]) rfl ?_|refine aa hX hC hP (dU [vw g,sI f.pl] f.row x hr) rfl rfl rfl (by simp only [go_sem,simprocAttr,ah,hR,aj,ak,aX,hb4]) rfl ?_|refine aa hX hC hP (fT [vw g,sI f.pl] f.row x a b hab iO hr) rfl rfl rfl (by simp only [go_sem,simprocAttr,ah,hR,aj,ak,aX,hb4]) rfl ?_);try simp only [go_sem,simprocAttr,ah,hR,aj,ak,aX,hb4])|(intro h))
theorem Al (ds:List D) (row:List It) (hr:row.length≤1000000):Spec Tryz.prog 87 (Args [.d (.pt (sT row::ds))]) [] (.ref 10000) [(10000, .tip 96 3 (row.map rT))]:=by
 (refine Spec.fA (C:=T.cfg [] []) (rs:= [.t 2]) [(10000,7)] (T.aq _ _) Tryz.func87 rfl rfl Tryz.ntmps87 Tryz.results87 (by simp [AObj.isNest]) (by simp [AObj.isNest]) (by first|(simp [look];done)|(simp [asN];done)|(intro l hl;simp only [asN];repeat (rw [if_neg (fun e=>by subst e;simp [look] at hl)]))) (by first|(simp [look];done)|(simp [asN];done)|(intro l hl;simp only [asN];repeat (rw [if_neg (fun e=>by subst e;simp [look] at hl)]))) (by kernel_rfl) ?_;intro X hX hP hC aM aN vals hA;refine ⟨_,by simp,hA, ?_⟩;have af:X.P.follows .mixedOrders=true:=(by rw [hP];exact T.mixed);clear aM aN)
 repeat' (first|fail|((first|((with_reducible (first|apply oA|apply oB));exact rfl;intro K hK)|(refine hK _ ?_;clear hK K)|((with_reducible (first|apply oG|apply oH));iterate 3 exact rfl)|((with_reducible apply oI);(iterate 2 exact rfl);intro K hK)|(with_reducible (first|apply wI|apply wJ|apply wK)));try simp only [go_sem,simprocAttr])|fail|(with_reducible (first|apply oC|apply oJ|exact oK|apply wA|apply wB|apply wC hX hC|apply wD hX hC|apply wE hX hC af|apply wF hX hC af|apply wG|apply wH|apply And.intro))|((with_reducible refine oD ?_ ?_);first|fail|kernel_rfl)|((with_reducible (first|apply oE|apply oF));(iterate 3 exact rfl);all_goals (intro h;first|(exact absurd h (by decide))|((try simp only [go_sem,simprocAttr] at h);(try with_reducible intro K hK);simp only [go_sem,simprocAttr])))|((first|((with_reducible apply wL);exact rfl)|((with_reducible apply wM);exact rfl));all_goals (try ((with_reducible intro h);first|(exact absurd h (by decide))|(try simp only [go_sem,simprocAttr] at h))))|omega|((first|(refine az hX hC hP [(10000,7)] (pL row hr) rfl rfl rfl ?_ ?_ ?_ ?_ ?_ ?_ ?_ ?_ ?_ ?_ ?_ ?_ ?_ ?_;(focus (simp only [go_sem,simprocAttr];done));(iterate 12 (focus (simp [go_sem,simprocAttr];done)));simp only [go_sem,simprocAttr,List.map_cons,List.map_nil]));try simp only [go_sem,simprocAttr])|(intro h))
end Go.Ab
end
section
namespace Go.Ab
open Go.Proofs
attribute [local congr] ACall.congr
set_option maxRecDepth 10000
set_option maxHeartbeats 2000000
theorem cx (l:List Int):Spec Tryz.prog 110 (Args [.d (sI l)]) [] (.fn 137 [] [.ptr 10000 0]) [(10000, .box [.d (sI l)])]:=by
 (refine Spec.fA (C:=T.cfg [] []) (rs:= [.t 2]) [(10000,1)] (T.aq _ _) Tryz.func110 rfl rfl Tryz.ntmps110 Tryz.results110 (by simp [AObj.isNest]) (by simp [AObj.isNest]) (by first|(simp [look];done)|(simp [asN];done)|(intro l hl;simp only [asN];repeat (rw [if_neg (fun e=>by subst e;simp [look] at hl)]))) (by first|(simp [look];done)|(simp [asN];done)|(intro l hl;simp only [asN];repeat (rw [if_neg (fun e=>by subst e;simp [look] at hl)]))) (by kernel_rfl) ?_;intro X hX hP hC aM aN vals hA;refine ⟨_,by simp,hA, ?_⟩;have af:X.P.follows .mixedOrders=true:=(by rw [hP];exact T.mixed);clear aM aN)
 repeat' (first|fail|((first|((with_reducible (first|apply oA|apply oB));exact rfl;intro K hK)|(refine hK _ ?_;clear hK K)|((with_reducible (first|apply oG|apply oH));iterate 3 exact rfl)|((with_reducible apply oI);(iterate 2 exact rfl);intro K hK)|(with_reducible (first|apply wI|apply wJ|apply wK)));try simp only [go_sem,simprocAttr])|fail|(with_reducible (first|apply oC|apply oJ|exact oK|apply wA|apply wB|apply wC hX hC|apply wD hX hC|apply wE hX hC af|apply wF hX hC af|apply wG|apply wH|apply And.intro))|((with_reducible refine oD ?_ ?_);first|fail|kernel_rfl)|((with_reducible (first|apply oE|apply oF));(iterate 3 exact rfl);all_goals (intro h;first|(exact absurd h (by decide))|((try simp only [go_sem,simprocAttr] at h);(try with_reducible intro K hK);simp only [go_sem,simprocAttr])))|((first|((with_reducible apply wL);exact rfl)|((with_reducible apply wM);exact rfl));all_goals (try ((with_reducible intro h);first|(exact absurd h (by decide))|(try simp only [go_sem,simprocAttr] at h))))|omega|((first|fail);try simp only [go_sem,simprocAttr])|(intro h))
theorem fh (xs ys:List Int) (hlen:xs.length≤9223372036854775807):Spec Tryz.prog 111 (Args [.d (sI xs), .d (sI ys)]) [] (eB (decide (xs=ys))) []:=by
 (refine Spec.intro (C:=T.cfg [] []) (rs:= [.t 4]) (T.aq _ _) Tryz.func111 rfl rfl Tryz.ntmps111 Tryz.results111 (by simp [AObj.isNest]) (by simp [AObj.isNest]) (by kernel_rfl) ?_;intro X hX hP hC aM aN vals hA;refine ⟨_,by simp,hA, ?_⟩;have af:X.P.follows .mixedOrders=true:=(by rw [hP];exact T.mixed);clear aM aN)
 repeat' (first|fail|((first|((with_reducible (first|apply oA|apply oB));exact rfl;intro K hK)|(refine hK _ ?_;clear hK K)|((with_reducible (first|apply oG|apply oH));iterate 3 exact rfl)|((with_reducible apply oI);(iterate 2 exact rfl);intro K hK)|(with_reducible (first|apply wI|apply wJ|apply wK)));try simp only [go_sem,simprocAttr])|fail|(with_reducible (first|apply oC|apply oJ|exact oK|apply wA|apply wB|apply wC hX hC|apply wD hX hC|apply wE hX hC af|apply wF hX hC af|apply wG|apply wH|apply And.intro))|((with_reducible refine oD ?_ ?_);first|fail|kernel_rfl)|((with_reducible (first|apply oE|apply oF));(iterate 3 exact rfl);all_goals (intro h;first|(exact absurd h (by decide))|((try simp only [go_sem,simprocAttr] at h);(try with_reducible intro K hK);simp only [go_sem,simprocAttr])))|((first|((with_reducible apply wL);exact rfl)|((with_reducible apply wM);exact rfl));all_goals (try ((with_reducible intro h);first|(exact absurd h (by decide))|(try simp only [go_sem,simprocAttr] at h))))|omega|((first|fail);try simp only [go_sem,simprocAttr])|(intro h))
 ·have:xs≠ys:=fun e=>h (by rw [e])
  simp [this]
 refine an (fun k:Nat=>k≤xs.length∧xs.take k=ys.take k) (fun k=>⟨[(0, .d (sI xs)),(1, .d (sI ys)),(12,eN xs.length),(13,eN k)], []⟩) (fun k=>xs.length - k) 0 (by simp) ?_ ?_
 ·(refine ⟨bL ?_,fun _ _ h=>h⟩;simp [go_sem,simprocAttr])
 rintro k ⟨hk,hp⟩
 have zL:xs.length=ys.length:=by omega
 repeat' (first|fail|((first|((with_reducible (first|apply oA|apply oB));exact rfl;intro K hK)|(refine hK _ ?_;clear hK K)|((with_reducible (first|apply oG|apply oH));iterate 3 exact rfl)|((with_reducible apply oI);(iterate 2 exact rfl);intro K hK)|(with_reducible (first|apply wI|apply wJ|apply wK)));try simp only [go_sem,simprocAttr])|fail|(with_reducible (first|apply oC|apply oJ|exact oK|apply wA|apply wB|apply wC hX hC|apply wD hX hC|apply wE hX hC af|apply wF hX hC af|apply wG|apply wH|apply And.intro))|((with_reducible refine oD ?_ ?_);first|fail|kernel_rfl)|((with_reducible (first|apply oE|apply oF));(iterate 3 exact rfl);all_goals (intro h;first|(exact absurd h (by decide))|((try simp only [go_sem,simprocAttr] at h);(try with_reducible intro K hK);simp only [go_sem,simprocAttr])))|((first|((with_reducible apply wL);exact rfl)|((with_reducible apply wM);exact rfl));all_goals (try ((with_reducible intro h);first|(exact absurd h (by decide))|(try simp only [go_sem,simprocAttr] at h))))|omega|((first|fail);try simp only [go_sem,simprocAttr])|(intro h))
 ·have:xs≠ys:=fun e=>h (by rw [e])
  simp [this]
 ·refine ⟨k+1,⟨by omega,tq 0 (by omega) (by omega) hp h⟩, ?_,by omega⟩
  (refine ⟨bL ?_,fun _ _ h=>h⟩;simp [go_sem,simprocAttr])
 ·have:k=xs.length:=by omega
  subst this
  rw [List.take_of_length_le (Nat.le_refl _),List.take_of_length_le (by omega)] at hp
  simp [hp]
def fE (g:Gr) (x:Int) (i:Int):It:=(i,x,(g.es.getD i.toNat (0,0)).2)
def aJ (g:Gr) (x:Int) (outs:List Int):List It:=if outs= [] then [(-1,x, -1)] else outs.map (fE g x)
theorem rV {α β:Type} {f:α→β} {l:List α} {d:α} {k:Nat} (h:k<l.length):(l.take (k+1)).map f=(l.take k).map f++ [f (l.getD k d)]:=by
 rw [List.take_add_one,List.map_append,List.getElem?_eq_getElem h,List.getD_eq_getElem?_getD,List.getElem?_eq_getElem h]
 rfl
theorem yd (g:Gr) (f:Fr) (x:Int) (outs:List Int) (hl:outs.length≤1000000) (ho:∀i∈outs,0≤i∧i<g.es.length):Spec Tryz.prog 115 (Args [.d (fG g f),eN x, .d (sI outs)]) [] (.ref 10000) [(10000, .tip 96 3 ((aJ g x outs).map rT))]:=by
 unfold fG
 by_cases h0:outs= []
 ·subst h0
  have hA:aJ g x []= [(-1,x, -1)]:=if_pos rfl
  rw [hA]
  (refine Spec.fA (C:=T.cfg [] []) (rs:= [.t 6]) [(10000,14)] (T.aq _ _) Tryz.func115 rfl rfl Tryz.ntmps115 Tryz.results115 (by simp [AObj.isNest]) (by simp [AObj.isNest]) (by first|(simp [look];done)|(simp [asN];done)|(intro l hl;simp only [asN];repeat (rw [if_neg (fun e=>by subst e;simp [look] at hl)]))) (by first|(simp [look];done)|(simp [asN];done)|(intro l hl;simp only [asN];repeat (rw [if_neg (fun e=>by subst e;simp [look] at hl)]))) (by kernel_rfl) ?_;intro X hX hP hC aM aN vals hA;refine ⟨_,by simp,hA, ?_⟩;have af:X.P.follows .mixedOrders=true:=(by rw [hP];exact T.mixed);clear aM aN)
  repeat' (first|fail|((first|((with_reducible (first|apply oA|apply oB));exact rfl;intro K hK)|(refine hK _ ?_;clear hK K)|((with_reducible (first|apply oG|apply oH));iterate 3 exact rfl)|((with_reducible apply oI);(iterate 2 exact rfl);intro K hK)|(with_reducible (first|apply wI|apply wJ|apply wK)));try simp only [go_sem,simprocAttr,ah])|fail|(with_reducible (first|apply oC|apply oJ|exact oK|apply wA|apply wB|apply wC hX hC|apply wD hX hC|apply wE hX hC af|apply wF hX hC af|apply wG|apply wH|apply And.intro))|((with_reducible refine oD ?_ ?_);first|fail|kernel_rfl)|((with_reducible (first|apply oE|apply oF));(iterate 3 exact rfl);all_goals (intro h;first|(exact absurd h (by decide))|((try simp only [go_sem,simprocAttr,ah] at h);(try with_reducible intro K hK);simp only [go_sem,simprocAttr,ah])))|((first|((with_reducible apply wL);exact rfl)|((with_reducible apply wM);exact rfl));all_goals (try ((with_reducible intro h);first|(exact absurd h (by decide))|(try simp only [go_sem,simprocAttr,ah] at h))))|omega|((first|fail);try simp only [go_sem,simprocAttr,ah])|(intro h))
 ·have hA:aJ g x outs=outs.map (fE g x):=if_neg h0
  rw [hA]
  have hb0:decide ((outs.length:Int)=0)=false:=decide_eq_false fun h=>h0 (List.eq_nil_of_length_eq_zero (by omega))
  (refine Spec.fA (C:=T.cfg [] []) (rs:= [.t 6]) [(10000,38)] (T.aq _ _) Tryz.func115 rfl rfl Tryz.ntmps115 Tryz.results115 (by simp [AObj.isNest]) (by simp [AObj.isNest]) (by first|(simp [look];done)|(simp [asN];done)|(intro l hl;simp only [asN];repeat (rw [if_neg (fun e=>by subst e;simp [look] at hl)]))) (by first|(simp [look];done)|(simp [asN];done)|(intro l hl;simp only [asN];repeat (rw [if_neg (fun e=>by subst e;simp [look] at hl)]))) (by kernel_rfl) ?_;intro X hX hP hC aM aN vals hA;refine ⟨_,by simp,hA, ?_⟩;have af:X.P.follows .mixedOrders=true:=(by rw [hP];exact T.mixed);clear aM aN)
  repeat' (first|fail|((first|((with_reducible (first|apply oA|apply oB));exact rfl;intro K hK)|(refine hK _ ?_;clear hK K)|((with_reducible (first|apply oG|apply oH));iterate 3 exact rfl)|((with_reducible apply oI);(iterate 2 exact rfl);intro K hK)|(with_reducible (first|apply wI|apply wJ|apply wK)));try simp only [go_sem,simprocAttr,ah,hb0])|fail|(with_reducible (first|apply oC|apply oJ|exact oK|apply wA|apply wB|apply wC hX hC|apply wD hX hC|apply wE hX hC af|apply wF hX hC af|apply wG|apply wH|apply And.intro))|((with_reducible refine oD ?_ ?_);first|fail|kernel_rfl)|((with_reducible (first|apply oE|apply oF));(iterate 3 exact rfl);all_goals (intro h;first|(exact absurd h (by decide))|((try simp only [go_sem,simprocAttr,ah,hb0] at h);(try with_reducible intro K hK);simp only [go_sem,simprocAttr,ah,hb0])))|((first|((with_reducible apply wL);exact rfl)|((with_reducible apply wM);exact rfl));all_goals (try ((with_reducible intro h);first|(exact absurd h (by decide))|(try simp only [go_sem,simprocAttr,ah,hb0] at h))))|omega|((first|fail);try simp only [go_sem,simprocAttr,ah,hb0])|(intro h))
  (refine jT hX 6 38 (.tip 96 3 []) (by simp only [go_sem,simprocAttr,ah,hb0]) (by simp only [go_sem,simprocAttr,ah,hb0]) (by decide) ⟨96,3,by decide, .inr rfl⟩ ?_;simp only [go_sem,simprocAttr,ah,hb0])
  refine an (fun k:Nat=>k≤outs.length) (fun k=>⟨[(0, .d (fG g f)),(1,eN x),(15, .d (sI outs)),(16,eN outs.length),(17,eN k),(6, .ref 38)], [(38, .tip 96 3 (((outs.take k).map (fE g x)).map rT))]⟩) (fun k=>outs.length - k) 0 (by omega) ?_ ?_
  ·refine Le.of ?_ ?_<;>simp [go_sem,simprocAttr,ah,hb0,fG]
  unfold fG
  rintro k hk
  rcases Nat.lt_or_ge k outs.length with hlt|hge
  ·have hb:decide ((k:Int)<(outs.length:Int))=true:=decide_eq_true (by omega)
   have eH:=rV (f:=fE g x) (d:=0) hlt
   have GZ:=ho _ (aT (d:=0) hlt)
   have hlk:(outs.take k).length=k:=by simp;omega
   repeat' (first|fail|((first|((with_reducible (first|apply oA|apply oB));exact rfl;intro K hK)|(refine hK _ ?_;clear hK K)|((with_reducible (first|apply oG|apply oH));iterate 3 exact rfl)|((with_reducible apply oI);(iterate 2 exact rfl);intro K hK)|(with_reducible (first|apply wI|apply wJ|apply wK)));try simp only [go_sem,simprocAttr,ah,hb,hlk])|fail|(with_reducible (first|apply oC|apply oJ|exact oK|apply wA|apply wB|apply wC hX hC|apply wD hX hC|apply wE hX hC af|apply wF hX hC af|apply wG|apply wH|apply And.intro))|((with_reducible refine oD ?_ ?_);first|fail|kernel_rfl)|((with_reducible (first|apply oE|apply oF));(iterate 3 exact rfl);all_goals (intro h;first|(exact absurd h (by decide))|((try simp only [go_sem,simprocAttr,ah,hb,hlk] at h);(try with_reducible intro K hK);simp only [go_sem,simprocAttr,ah,hb,hlk])))|((first|((with_reducible apply wL);exact rfl)|((with_reducible apply wM);exact rfl));all_goals (try ((with_reducible intro h);first|(exact absurd h (by decide))|(try simp only [go_sem,simprocAttr,ah,hb,hlk] at h))))|omega|((first|fail);try simp only [go_sem,simprocAttr,ah,hb,hlk])|(intro h))
   refine ⟨k+1,by omega, ?_,by omega⟩
   refine Le.of ?_ ?_<;>simp [go_sem,simprocAttr,ah,hb,hlk,eH,fE]
  ·have hb:decide ((k:Int)<(outs.length:Int))=false:=decide_eq_false (by omega)
   obtain rfl:k=outs.length:=by omega
   have ht:outs.take outs.length=outs:=List.take_of_length_le (by omega)
   repeat' (first|fail|((first|((with_reducible (first|apply oA|apply oB));exact rfl;intro K hK)|(refine hK _ ?_;clear hK K)|((with_reducible (first|apply oG|apply oH));iterate 3 exact rfl)|((with_reducible apply oI);(iterate 2 exact rfl);intro K hK)|(with_reducible (first|apply wI|apply wJ|apply wK)));try simp only [go_sem,simprocAttr,ah,hb,ht])|fail|(with_reducible (first|apply oC|apply oJ|exact oK|apply wA|apply wB|apply wC hX hC|apply wD hX hC|apply wE hX hC af|apply wF hX hC af|apply wG|apply wH|apply And.intro))|((with_reducible refine oD ?_ ?_);first|fail|kernel_rfl)|((with_reducible (first|apply oE|apply oF));(iterate 3 exact rfl);all_goals (intro h;first|(exact absurd h (by decide))|((try simp only [go_sem,simprocAttr,ah,hb,ht] at h);(try with_reducible intro K hK);simp only [go_sem,simprocAttr,ah,hb,ht])))|((first|((with_reducible apply wL);exact rfl)|((with_reducible apply wM);exact rfl));all_goals (try ((with_reducible intro h);first|(exact absurd h (by decide))|(try simp only [go_sem,simprocAttr,ah,hb,ht] at h))))|omega|((first|fail);try simp only [go_sem,simprocAttr,ah,hb,ht])|(intro h))
def iC (g:Gr) (f:Fr):List (Nat × AObj):= [(10000, .box [.d (sT f.row), .d (vw g), .ref 10001]),(10001, .tip 3 1 (f.pl.map rI))]
theorem uZ (row items:List It) (a b:Nat) (h0:0<items.length) (hr:row.length≤400000) (hi:items.length≤100000):Spec Tryz.prog 139 (Args [.d (.sl 1 [[.sl 3 (List.take a (row.map rT))], [.sl 3 (items.map rT)], [.sl 3 (List.drop b (row.map rT))]])]) [] (.d (sT (row.take a++items++row.drop b))) []:=by
 have hf: [row.take a,items,row.drop b].flatten=row.take a++items++row.drop b:=by simp
 have hlen: [row.take a,items,row.drop b].flatten.length=min a row.length+items.length+(row.length - b):=by simp;omega
 have:=uY [row.take a,items,row.drop b] (by simp) (by omega) (by omega)
 rw [hf] at this
 simpa only [vT,List.map_cons,List.map_nil,sT,List.map_take,List.map_drop] using this
theorem Am (g:Gr) (row items:List It) (pl:List Int) (a b:Nat) (hab:a≤b) (hb:b≤row.length) (h0:0<items.length) (hr:row.length≤400000) (hi:items.length≤100000):
 Spec Tryz.prog 114 (Args [.ptr 10000 0,eN a,eN b, .ref 10003]) (iC g ⟨row,pl⟩++ [(10003, .tip 96 3 (items.map rT))]) (.d (sT ((row.take b).drop a))) (iC g ⟨row.take a++items++row.drop b,pl⟩):=by
 have dD:((row.take b).drop a).length≤1000000:=by simp;omega
 have wU:List.take row.length (row.map rT)=row.map rT:=List.take_of_length_le (by simp)
 unfold iC
 simp only [List.cons_append,List.nil_append]
 (refine Spec.intro (C:=T.cfg [] []) (rs:= [.t 8]) (T.aq _ _) Tryz.func114 rfl rfl Tryz.ntmps114 Tryz.results114 (by simp [AObj.isNest]) (by simp [AObj.isNest]) (by kernel_rfl) ?_;intro X hX hP hC aM aN vals hA;refine ⟨_,by simp,hA, ?_⟩;have af:X.P.follows .mixedOrders=true:=(by rw [hP];exact T.mixed);clear aM aN)
 repeat' (first|fail|((first|((with_reducible (first|apply oA|apply oB));exact rfl;intro K hK)|(refine hK _ ?_;clear hK K)|((with_reducible (first|apply oG|apply oH));iterate 3 exact rfl)|((with_reducible apply oI);(iterate 2 exact rfl);intro K hK)|(with_reducible (first|apply wI|apply wJ|apply wK)));try simp only [go_sem,simprocAttr,List.map_take,List.map_drop,wU])|fail|(with_reducible (first|apply oC|apply oJ|exact oK|apply wA|apply wB|apply wC hX hC|apply wD hX hC|apply wE hX hC af|apply wF hX hC af|apply wG|apply wH|apply And.intro))|((with_reducible refine oD ?_ ?_);first|fail|kernel_rfl)|((with_reducible (first|apply oE|apply oF));(iterate 3 exact rfl);all_goals (intro h;first|(exact absurd h (by decide))|((try simp only [go_sem,simprocAttr,List.map_take,List.map_drop,wU] at h);(try with_reducible intro K hK);simp only [go_sem,simprocAttr,List.map_take,List.map_drop,wU])))|((first|((with_reducible apply wL);exact rfl)|((with_reducible apply wM);exact rfl));all_goals (try ((with_reducible intro h);first|(exact absurd h (by decide))|(try simp only [go_sem,simprocAttr,List.map_take,List.map_drop,wU] at h))))|omega|((first|first|(refine az hX hC hP [(10000,17)] (pL ((row.take b).drop a) dD) rfl rfl rfl ?_ ?_ ?_ ?_ ?_ ?_ ?_ ?_ ?_ ?_ ?_ ?_ ?_ ?_;(focus (simp only [go_sem,simprocAttr,List.map_take,List.map_drop,wU];done));(iterate 12 (focus (simp [go_sem,simprocAttr,List.map_take,List.map_drop,wU];done)));simp only [go_sem,simprocAttr,List.map_take,List.map_drop,wU,List.map_cons,List.map_nil])|(refine bk hX hC hP (uZ row items a b h0 hr hi) rfl rfl rfl ?_ ?_ rfl ?_;iterate 2 (focus (simp only [go_sem,simprocAttr,List.map_take,List.map_drop,wU];done))));try simp only [go_sem,simprocAttr,List.map_take,List.map_drop,wU])|(intro h))
end Go.Ab
end
section
namespace Go.Ab
open Go.Proofs
attribute [local congr] ACall.congr
set_option maxRecDepth 10000
set_option maxHeartbeats 4000000
def rW (g:Gr) (f:Fr):List (Nat × AObj):= [(10000, .box [.d (sT f.row), .d (vw g), .ref 10002]),(10002, .tip 3 1 (f.pl.map rI))]
def iS (g:Gr) (f:Fr) (x:Int) (outs:List Int):(List It × Int) × Fr:=
 if fU g f x=false then (([],3),f) else if gE outs≠bp (·.1) g x then (([],1),f) else
 (((f.row.take (aS f.row x).2.1.toNat).drop (max (aS f.row x).1 0).toNat,0),⟨f.row.take (max (aS f.row x).1 0).toNat++aJ g x outs++f.row.drop (aS f.row x).2.1.toNat,f.pl++ [x]⟩)
theorem gV {f:Edge→Int} {es:List Edge} {k:Nat} {x i:Int} (h:i∈bf f es k x):(0≤i∧i<k)∧f (es.getD i.toNat (0,0))=x:=by
 simp only [bf,List.mem_map,List.mem_filter,List.mem_range,decide_eq_true_eq] at h
 obtain ⟨j,⟨h1,h2⟩,rfl⟩:=h
 exact ⟨⟨Int.natCast_nonneg j,by simp;omega⟩,h2⟩
theorem ye {f:Edge→Int} {g:Gr} {x i:Int} (h:i∈bp f g x):(0≤i∧i<g.es.length)∧f (g.es.getD i.toNat (0,0))=x:=by
 unfold bp at h
 split at h
 ·exact gV h
 ·cases h
theorem wV {l:List Int} {x:Int} :x∈gE l↔x∈l:=by simp [gE]
theorem tF (row:List It) (x:Int):∃a b:Nat,max (aS row x).1 0=(a:Int)∧(aS row x).2.1=(b:Int)∧a≤b∧b≤row.length:=by
 rcases cM (row:=row) (x:=x) row.length with ⟨h,_⟩|⟨a,b,c,h,h1,h2,_⟩
 ·exact ⟨0,0,by unfold aS;rw [h];rfl,by unfold aS;rw [h];rfl,by omega,by omega⟩
 ·exact ⟨a,b,by unfold aS;rw [h];simp only;omega,by unfold aS;rw [h],by omega,by omega⟩
theorem j6 {g:Gr} {x:Int} {outs:List Int} :0<(aJ g x outs).length∧(aJ g x outs).length≤outs.length+1:=by
 unfold aJ
 split
 ·simp
 ·rename_i h
  have:=List.length_pos_iff.2 h
  simp;omega
theorem yf (g:Gr) (hm:aU g=true) (f:Fr) (x:Int) (outs:List Int) (hr:f.row.length≤300000) (hp:f.pl.length≤100000) (ho:outs.length≤17592186043904):
 Spec Tryz.prog 86 (Args [.ptr 10000 0,eN x, .d (sI outs)]) (iC g f) (.tup [.d (sT (iS g f x outs).1.1),eN (iS g f x outs).1.2]) (rW g (iS g f x outs).2):=by
 have jd:f.row.length≤1000000:=by omega
 have hp1:f.pl.length≤1000000:=by omega
 have hs:(gE outs).length≤9223372036854775807:=by rw [eR];omega
 have hn:=aY hm
 cases hR:fU g f x with
 |false=>
  have hP:iS g f x outs=(([],3),f):=if_pos hR
  rw [hP]
  unfold iC rW
  (refine Spec.fA (C:=T.cfg [] []) (rs:= [.t 6, .t 7]) [(10002,10001)] (T.aq _ _) Tryz.func86 rfl rfl Tryz.ntmps86 Tryz.results86 (by simp [AObj.isNest]) (by simp [AObj.isNest]) (by first|(simp [look];done)|(simp [asN];done)|(intro l hl;simp only [asN];repeat (rw [if_neg (fun e=>by subst e;simp [look] at hl)]))) (by first|(simp [look];done)|(simp [asN];done)|(intro l hl;simp only [asN];repeat (rw [if_neg (fun e=>by subst e;simp [look] at hl)]))) (by kernel_rfl) ?_;intro X hX hP hC aM aN vals hA;refine ⟨_,by simp,hA, ?_⟩;have af:X.P.follows .mixedOrders=true:=(by rw [hP];exact T.mixed);clear aM aN)
  repeat' (first|fail|((first|((with_reducible (first|apply oA|apply oB));exact rfl;intro K hK)|(refine hK _ ?_;clear hK K)|((with_reducible (first|apply oG|apply oH));iterate 3 exact rfl)|((with_reducible apply oI);(iterate 2 exact rfl);intro K hK)|(with_reducible (first|apply wI|apply wJ|apply wK)));try simp only [go_sem,simprocAttr,hR,fG])|fail|(with_reducible (first|apply oC|apply oJ|exact oK|apply wA|apply wB|apply wC hX hC|apply wD hX hC|apply wE hX hC af|apply wF hX hC af|apply wG|apply wH|apply And.intro))|((with_reducible refine oD ?_ ?_);first|fail|kernel_rfl)|((with_reducible (first|apply oE|apply oF));(iterate 3 exact rfl);all_goals (intro h;first|(exact absurd h (by decide))|((try simp only [go_sem,simprocAttr,hR,fG] at h);(try with_reducible intro K hK);simp only [go_sem,simprocAttr,hR,fG])))|((first|((with_reducible apply wL);exact rfl)|((with_reducible apply wM);exact rfl));all_goals (try ((with_reducible intro h);first|(exact absurd h (by decide))|(try simp only [go_sem,simprocAttr,hR,fG] at h))))|omega|((first|first|(refine ai hX hC hP (mQ g hm f x jd hp1) rfl rfl rfl ?_ ?_ ?_ ?_;iterate 3 (focus (simp only [go_sem,simprocAttr,hR,fG];done)))|(refine az hX hC hP [(10000,16)] (cx outs) rfl rfl rfl ?_ ?_ ?_ ?_ ?_ ?_ ?_ ?_ ?_ ?_ ?_ ?_ ?_ ?_;(focus (simp only [go_sem,simprocAttr,hR,fG];done));(iterate 12 (focus (simp [go_sem,simprocAttr,hR,fG];done)));simp only [go_sem,simprocAttr,hR,fG,List.map_cons,List.map_nil])|(refine aQ hX hC hP [(10000,16)] (bW outs ho) rfl rfl rfl ?_ ?_ ?_ ?_ ?_ ?_ rfl rfl ?_ ?_;(focus (simp only [go_sem,simprocAttr,hR,fG];done));(iterate 6 (focus (simp [go_sem,simprocAttr,hR,fG];done)));simp only [go_sem,simprocAttr,hR,fG,List.map_cons,List.map_nil])|refine aa hX hC hP (gU g hm x) rfl rfl rfl (by simp only [go_sem,simprocAttr,hR,fG]) rfl ?_|refine aa hX hC hP (fh (gE outs) (bp (·.1) g x) hs) rfl rfl rfl (by simp only [go_sem,simprocAttr,hR,fG]) rfl ?_|(refine ai hX hC hP (dU [vw g,sI f.pl] f.row x jd) rfl rfl rfl ?_ ?_ ?_ ?_;iterate 3 (focus (simp only [go_sem,simprocAttr,hR,fG];done))));try simp only [go_sem,simprocAttr,hR,fG])|(intro h))
 |true=>
 have FI:¬fU g f x=false:=by rw [hR];simp
 by_cases hE:¬gE outs=bp (·.1) g x
 ·have aj:decide (gE outs=bp (·.1) g x)=false:=decide_eq_false hE
  have hP:iS g f x outs=(([],1),f):=by unfold iS;rw [if_neg FI,if_pos hE]
  rw [hP]
  unfold iC rW
  (refine Spec.fA (C:=T.cfg [] []) (rs:= [.t 6, .t 7]) [(10002,10001)] (T.aq _ _) Tryz.func86 rfl rfl Tryz.ntmps86 Tryz.results86 (by simp [AObj.isNest]) (by simp [AObj.isNest]) (by first|(simp [look];done)|(simp [asN];done)|(intro l hl;simp only [asN];repeat (rw [if_neg (fun e=>by subst e;simp [look] at hl)]))) (by first|(simp [look];done)|(simp [asN];done)|(intro l hl;simp only [asN];repeat (rw [if_neg (fun e=>by subst e;simp [look] at hl)]))) (by kernel_rfl) ?_;intro X hX hP hC aM aN vals hA;refine ⟨_,by simp,hA, ?_⟩;have af:X.P.follows .mixedOrders=true:=(by rw [hP];exact T.mixed);clear aM aN)
  repeat' (first|fail|((first|((with_reducible (first|apply oA|apply oB));exact rfl;intro K hK)|(refine hK _ ?_;clear hK K)|((with_reducible (first|apply oG|apply oH));iterate 3 exact rfl)|((with_reducible apply oI);(iterate 2 exact rfl);intro K hK)|(with_reducible (first|apply wI|apply wJ|apply wK)));try simp only [go_sem,simprocAttr,hR,aj,fG])|fail|(with_reducible (first|apply oC|apply oJ|exact oK|apply wA|apply wB|apply wC hX hC|apply wD hX hC|apply wE hX hC af|apply wF hX hC af|apply wG|apply wH|apply And.intro))|((with_reducible refine oD ?_ ?_);first|fail|kernel_rfl)|((with_reducible (first|apply oE|apply oF));(iterate 3 exact rfl);all_goals (intro h;first|(exact absurd h (by decide))|((try simp only [go_sem,simprocAttr,hR,aj,fG] at h);(try with_reducible intro K hK);simp only [go_sem,simprocAttr,hR,aj,fG])))|((first|((with_reducible apply wL);exact rfl)|((with_reducible apply wM);exact rfl));all_goals (try ((with_reducible intro h);first|(exact absurd h (by decide))|(try simp only [go_sem,simprocAttr,hR,aj,fG] at h))))|omega|((first|first|(refine ai hX hC hP (mQ g hm f x jd hp1) rfl rfl rfl ?_ ?_ ?_ ?_;iterate 3 (focus (simp only [go_sem,simprocAttr,hR,aj,fG];done)))|(refine az hX hC hP [(10000,16)] (cx outs) rfl rfl rfl ?_ ?_ ?_ ?_ ?_ ?_ ?_ ?_ ?_ ?_ ?_ ?_ ?_ ?_;(focus (simp only [go_sem,simprocAttr,hR,aj,fG];done));(iterate 12 (focus (simp [go_sem,simprocAttr,hR,aj,fG];done)));simp only [go_sem,simprocAttr,hR,aj,fG,List.map_cons,List.map_nil])|(refine aQ hX hC hP [(10000,16)] (bW outs ho) rfl rfl rfl ?_ ?_ ?_ ?_ ?_ ?_ rfl rfl ?_ ?_;(focus (simp only [go_sem,simprocAttr,hR,aj,fG];done));(iterate 6 (focus (simp [go_sem,simprocAttr,hR,aj,fG];done)));simp only [go_sem,simprocAttr,hR,aj,fG,List.map_cons,List.map_nil])|refine aa hX hC hP (gU g hm x) rfl rfl rfl (by simp only [go_sem,simprocAttr,hR,aj,fG]) rfl ?_|refine aa hX hC hP (fh (gE outs) (bp (·.1) g x) hs) rfl rfl rfl (by simp only [go_sem,simprocAttr,hR,aj,fG]) rfl ?_|(refine ai hX hC hP (dU [vw g,sI f.pl] f.row x jd) rfl rfl rfl ?_ ?_ ?_ ?_;iterate 3 (focus (simp only [go_sem,simprocAttr,hR,aj,fG];done))));try simp only [go_sem,simprocAttr,hR,aj,fG])|(intro h))
 rw [Decidable.not_not] at hE
 have aj:decide (gE outs=bp (·.1) g x)=true:=decide_eq_true hE
 have hP:iS g f x outs=(((f.row.take (aS f.row x).2.1.toNat).drop (max (aS f.row x).1 0).toNat,0),⟨f.row.take (max (aS f.row x).1 0).toNat++aJ g x outs++f.row.drop (aS f.row x).2.1.toNat,f.pl++ [x]⟩):=by
  unfold iS;rw [if_neg FI,if_neg (by rw [hE];simp)]
 rw [hP]
 obtain ⟨a,b,ha,hb,hab,iO⟩:=tF f.row x
 rw [ha,hb]
 simp only [Int.toNat_natCast]
 have AU:outs.length≤128:=by
  have h1:=congrArg List.length hE
  rw [eR] at h1
  have h2:=yc (f:=(·.1)) (g:=g) (x:=x)
  omega
 have D7:∀i∈outs,0≤i∧i<g.es.length:=fun i hi=>(ye (f:=(·.1)) (g:=g) (x:=x) (by rw [← hE];exact wV.2 hi)).1
 obtain ⟨h0,h1⟩:=j6 (g:=g) (x:=x) (outs:=outs)
 have sG:(aJ g x outs).length≤100000:=by omega
 have vo:f.row.length≤400000:=by omega
 have LP:outs.length≤1000000:=by omega
 unfold iC rW
 (refine Spec.fA (C:=T.cfg [] []) (rs:= [.t 6, .t 7]) [(10002,42)] (T.aq _ _) Tryz.func86 rfl rfl Tryz.ntmps86 Tryz.results86 (by simp [AObj.isNest]) (by simp [AObj.isNest]) (by first|(simp [look];done)|(simp [asN];done)|(intro l hl;simp only [asN];repeat (rw [if_neg (fun e=>by subst e;simp [look] at hl)]))) (by first|(simp [look];done)|(simp [asN];done)|(intro l hl;simp only [asN];repeat (rw [if_neg (fun e=>by subst e;simp [look] at hl)]))) (by kernel_rfl) ?_;intro X hX hP hC aM aN vals hA;refine ⟨_,by simp,hA, ?_⟩;have af:X.P.follows .mixedOrders=true:=(by rw [hP];exact T.mixed);clear aM aN)
 repeat' (first|fail|((first|((with_reducible (first|apply oA|apply oB));exact rfl;intro K hK)|(refine hK _ ?_;clear hK K)|((with_reducible (first|apply oG|apply oH));iterate 3 exact rfl)|((with_reducible apply oI);(iterate 2 exact rfl);intro K hK)|(with_reducible (first|apply wI|apply wJ|apply wK)));try simp only [go_sem,simprocAttr,hR,aj,ha,hb,fG,List.length_map,List.map_append,List.map_cons,List.map_nil,rI,iC,List.cons_append,List.nil_append,List.map_take,List.map_drop])|fail|(with_reducible (first|apply oC|apply oJ|exact oK|apply wA|apply wB|apply wC hX hC|apply wD hX hC|apply wE hX hC af|apply wF hX hC af|apply wG|apply wH|apply And.intro))|((with_reducible refine oD ?_ ?_);first|fail|kernel_rfl)|((with_reducible (first|apply oE|apply oF));(iterate 3 exact rfl);all_goals (intro h;first|(exact absurd h (by decide))|((try simp only [go_sem,simprocAttr,hR,aj,ha,hb,fG,List.length_map,List.map_append,List.map_cons,List.map_nil,rI,iC,List.cons_append,List.nil_append,List.map_take,List.map_drop] at h);(try with_reducible intro K hK);simp only [go_sem,simprocAttr,hR,aj,ha,hb,fG,List.length_map,List.map_append,List.map_cons,List.map_nil,rI,iC,List.cons_append,List.nil_append,List.map_take,List.map_drop])))|((first|((with_reducible apply wL);exact rfl)|((with_reducible apply wM);exact rfl));all_goals (try ((with_reducible intro h);first|(exact absurd h (by decide))|(try simp only [go_sem,simprocAttr,hR,aj,ha,hb,fG,List.length_map,List.map_append,List.map_cons,List.map_nil,rI,iC,List.cons_append,List.nil_append,List.map_take,List.map_drop] at h))))|omega|((first|first|(refine ai hX hC hP (mQ g hm f x jd hp1) rfl rfl rfl ?_ ?_ ?_ ?_;iterate 3 (focus (simp only [go_sem,simprocAttr,hR,aj,ha,hb,fG,List.length_map,List.map_append,List.map_cons,List.map_nil,rI,iC,List.cons_append,List.nil_append,List.map_take,List.map_drop];done)))|(refine az hX hC hP [(10000,16)] (cx outs) rfl rfl rfl ?_ ?_ ?_ ?_ ?_ ?_ ?_ ?_ ?_ ?_ ?_ ?_ ?_ ?_;(focus (simp only [go_sem,simprocAttr,hR,aj,ha,hb,fG,List.length_map,List.map_append,List.map_cons,List.map_nil,rI,iC,List.cons_append,List.nil_append,List.map_take,List.map_drop];done));(iterate 12 (focus (simp [go_sem,simprocAttr,hR,aj,ha,hb,fG,List.length_map,List.map_append,List.map_cons,List.map_nil,rI,iC,List.cons_append,List.nil_append,List.map_take,List.map_drop];done)));simp only [go_sem,simprocAttr,hR,aj,ha,hb,fG,List.length_map,List.map_append,List.map_cons,List.map_nil,rI,iC,List.cons_append,List.nil_append,List.map_take,List.map_drop,List.map_cons,List.map_nil])|(refine aQ hX hC hP [(10000,16)] (bW outs ho) rfl rfl rfl ?_ ?_ ?_ ?_ ?_ ?_ rfl rfl ?_ ?_;(focus (simp only [go_sem,simprocAttr,hR,aj,ha,hb,fG,List.length_map,List.map_append,List.map_cons,List.map_nil,rI,iC,List.cons_append,List.nil_append,List.map_take,List.map_drop];done));(iterate 6 (focus (simp [go_sem,simprocAttr,hR,aj,ha,hb,fG,List.length_map,List.map_append,List.map_cons,List.map_nil,rI,iC,List.cons_append,List.nil_append,List.map_take,List.map_drop];done)));simp only [go_sem,simprocAttr,hR,aj,ha,hb,fG,List.length_map,List.map_append,List.map_cons,List.map_nil,rI,iC,List.cons_append,List.nil_append,List.map_take,List.map_drop,List.map_cons,List.map_nil])|refine aa hX hC hP (gU g hm x) rfl rfl rfl (by simp only [go_sem,simprocAttr,hR,aj,ha,hb,fG,List.length_map,List.map_append,List.map_cons,List.map_nil,rI,iC,List.cons_append,List.nil_append,List.map_take,List.map_drop]) rfl ?_|refine aa hX hC hP (fh (gE outs) (bp (·.1) g x) hs) rfl rfl rfl (by simp only [go_sem,simprocAttr,hR,aj,ha,hb,fG,List.length_map,List.map_append,List.map_cons,List.map_nil,rI,iC,List.cons_append,List.nil_append,List.map_take,List.map_drop]) rfl ?_|(refine ai hX hC hP (dU [vw g,sI f.pl] f.row x jd) rfl rfl rfl ?_ ?_ ?_ ?_;iterate 3 (focus (simp only [go_sem,simprocAttr,hR,aj,ha,hb,fG,List.length_map,List.map_append,List.map_cons,List.map_nil,rI,iC,List.cons_append,List.nil_append,List.map_take,List.map_drop];done)))|(refine pH hX hC hP 54 (yd g ⟨f.row,f.pl++ [x]⟩ x outs LP D7) rfl rfl rfl ?_ ?_ (by first|exact ⟨_,_,_,rfl,EI⟩|exact ⟨_,_,_,rfl,EJ⟩|exact ⟨_,_,_,rfl,EK⟩) rfl (by decide) ?_;(iterate 2 (focus (simp only [go_sem,simprocAttr,hR,aj,ha,hb,fG,List.length_map,List.map_append,List.map_cons,List.map_nil,rI,iC,List.cons_append,List.nil_append,List.map_take,List.map_drop];done)));simp only [go_sem,simprocAttr,hR,aj,ha,hb,fG,List.length_map,List.map_append,List.map_cons,List.map_nil,rI,iC,List.cons_append,List.nil_append,List.map_take,List.map_drop])|(refine az hX hC hP [(10001,42),(10003,54)] (Am g f.row (aJ g x outs) (f.pl++ [x]) a b hab iO h0 vo sG) rfl rfl rfl ?_ ?_ ?_ ?_ ?_ ?_ ?_ ?_ ?_ ?_ ?_ ?_ ?_ ?_;(focus (simp only [go_sem,simprocAttr,hR,aj,ha,hb,fG,List.length_map,List.map_append,List.map_cons,List.map_nil,rI,iC,List.cons_append,List.nil_append,List.map_take,List.map_drop];done));(iterate 12 (focus (simp [go_sem,simprocAttr,hR,aj,ha,hb,fG,List.length_map,List.map_append,List.map_cons,List.map_nil,rI,iC,List.cons_append,List.nil_append,List.map_take,List.map_drop];done)));simp only [go_sem,simprocAttr,hR,aj,ha,hb,fG,List.length_map,List.map_append,List.map_cons,List.map_nil,rI,iC,List.cons_append,List.nil_append,List.map_take,List.map_drop,List.map_cons,List.map_nil]));try simp only [go_sem,simprocAttr,hR,aj,ha,hb,fG,List.length_map,List.map_append,List.map_cons,List.map_nil,rI,iC,List.cons_append,List.nil_append,List.map_take,List.map_drop])|(intro h))
end Go.Ab
end
section
namespace Go.Ab
open Go.Proofs
attribute [local congr] ACall.congr
set_option maxRecDepth 10000
set_option maxHeartbeats 4000000
def FJ (g:Gr) (f:Fr) (k:Nat):List Int:=((List.range k).filter fun x:Nat=>fU g f (x:Int)).map Int.ofNat
def FK (g:Gr) (f:Fr):List Int:=FJ g f g.n.toNat
theorem tG (g:Gr) (hl:g.es.length≤1000) (h0:(cg g).1=0) (hm:aU g=true):Spec Tryz.prog 84 (Args [eG g]) [] (.tup [.ptr 10000 0,eN 0]) [(10000, .box [.nil 96, .d (vw g), .nil 3])]:=by
 (refine Spec.fA (C:=T.cfg [] []) (rs:= [.t 2, .t 3]) [(10000,11)] (T.aq _ _) Tryz.func84 rfl rfl Tryz.ntmps84 Tryz.results84 (by simp [AObj.isNest]) (by simp [AObj.isNest]) (by first|(simp [look];done)|(simp [asN];done)|(intro l hl;simp only [asN];repeat (rw [if_neg (fun e=>by subst e;simp [look] at hl)]))) (by first|(simp [look];done)|(simp [asN];done)|(intro l hl;simp only [asN];repeat (rw [if_neg (fun e=>by subst e;simp [look] at hl)]))) (by kernel_rfl) ?_;intro X hX hP hC aM aN vals hA;refine ⟨_,by simp,hA, ?_⟩;have af:X.P.follows .mixedOrders=true:=(by rw [hP];exact T.mixed);clear aM aN)
 repeat' (first|fail|((first|((with_reducible (first|apply oA|apply oB));exact rfl;intro K hK)|(refine hK _ ?_;clear hK K)|((with_reducible (first|apply oG|apply oH));iterate 3 exact rfl)|((with_reducible apply oI);(iterate 2 exact rfl);intro K hK)|(with_reducible (first|apply wI|apply wJ|apply wK)));try simp only [go_sem,simprocAttr,h0])|fail|(with_reducible (first|apply oC|apply oJ|exact oK|apply wA|apply wB|apply wC hX hC|apply wD hX hC|apply wE hX hC af|apply wF hX hC af|apply wG|apply wH|apply And.intro))|((with_reducible refine oD ?_ ?_);first|fail|kernel_rfl)|((with_reducible (first|apply oE|apply oF));(iterate 3 exact rfl);all_goals (intro h;first|(exact absurd h (by decide))|((try simp only [go_sem,simprocAttr,h0] at h);(try with_reducible intro K hK);simp only [go_sem,simprocAttr,h0])))|((first|((with_reducible apply wL);exact rfl)|((with_reducible apply wM);exact rfl));all_goals (try ((with_reducible intro h);first|(exact absurd h (by decide))|(try simp only [go_sem,simprocAttr,h0] at h))))|omega|((first|first|refine aa hX hC hP (jZ g hl) rfl rfl rfl (by simp only [go_sem,simprocAttr,h0]) rfl ?_|refine aa hX hC hP (fZ g hm) rfl rfl rfl (by simp only [go_sem,simprocAttr,h0]) rfl ?_);try simp only [go_sem,simprocAttr,h0])|(intro h))
theorem An (g:Gr) (hl:g.es.length≤1000) (h0:(cg g).1≠0):Spec Tryz.prog 84 (Args [eG g]) [] (.tup [.d (.sc (.pointer none)),eN 1]) []:=by
 have hb:decide ((cg g).1=0)=false:=decide_eq_false h0
 (refine Spec.intro (C:=T.cfg [] []) (rs:= [.t 2, .t 3]) (T.aq _ _) Tryz.func84 rfl rfl Tryz.ntmps84 Tryz.results84 (by simp [AObj.isNest]) (by simp [AObj.isNest]) (by kernel_rfl) ?_;intro X hX hP hC aM aN vals hA;refine ⟨_,by simp,hA, ?_⟩;have af:X.P.follows .mixedOrders=true:=(by rw [hP];exact T.mixed);clear aM aN)
 repeat' (first|fail|((first|((with_reducible (first|apply oA|apply oB));exact rfl;intro K hK)|(refine hK _ ?_;clear hK K)|((with_reducible (first|apply oG|apply oH));iterate 3 exact rfl)|((with_reducible apply oI);(iterate 2 exact rfl);intro K hK)|(with_reducible (first|apply wI|apply wJ|apply wK)));try simp only [go_sem,simprocAttr,hb])|fail|(with_reducible (first|apply oC|apply oJ|exact oK|apply wA|apply wB|apply wC hX hC|apply wD hX hC|apply wE hX hC af|apply wF hX hC af|apply wG|apply wH|apply And.intro))|((with_reducible refine oD ?_ ?_);first|fail|kernel_rfl)|((with_reducible (first|apply oE|apply oF));(iterate 3 exact rfl);all_goals (intro h;first|(exact absurd h (by decide))|((try simp only [go_sem,simprocAttr,hb] at h);(try with_reducible intro K hK);simp only [go_sem,simprocAttr,hb])))|((first|((with_reducible apply wL);exact rfl)|((with_reducible apply wM);exact rfl));all_goals (try ((with_reducible intro h);first|(exact absurd h (by decide))|(try simp only [go_sem,simprocAttr,hb] at h))))|omega|((first|first|refine aa hX hC hP (jZ g hl) rfl rfl rfl (by simp only [go_sem,simprocAttr,hb]) rfl ?_);try simp only [go_sem,simprocAttr,hb])|(intro h))
end Go.Ab
end
