/- A part of the proof. -/
import Derived.Test.YtjmaiddbinlooaaGreatL7P12
set_option linter.unusedSimpArgs false
set_option linter.unusedVariables false
section
namespace Go.Ab
open Go.Proofs
attribute [local congr] ACall.congr
set_option maxRecDepth 10000
def v7 (g:Gr):List Bool:=fq g g.n.toNat
theorem lI {g:Gr} :fq g g.n.toNat=v7 g:=rfl
def E6 (g:Gr):Int:=if bM (fun b:Bool=>b) (v7 g)<0 then g.n else bM (fun b:Bool=>b) (v7 g)
def v8 (g:Gr) (x:Int) (b:Int) (i:Nat):Int:=if hd g i=x∧(v7 g).getD (tl g i).toNat false=true then min b (tl g i) else b
def dX (g:Gr) (x:Int) (k:Nat):Int:=(List.range k).foldl (v8 g x) g.n
def nE (g:Gr):Nat→List Int→Int→List Int × Int
 |0,way,x=>(way,x)
 |f+1,way,x=>if x∈way then (way,x) else nE g f (way++ [x]) (dX g x g.es.length)
def gx (g:Gr):Gr:=⟨g.n+1,g.es⟩
def oL (g:Gr):List Int × Int:=nE g (g.n.toNat+1) [] (E6 g)
def qE (l:List Int) (m k:Nat):List Int:=(List.range k).map fun i=>l.getD ((m+l.length - i) % l.length) 0
def uM (l:List Int):List Int:=qE l (dF l (ia l)).toNat l.length
def lJ (g:Gr):List Int:=if E6 g=g.n then [] else uM ((oL g).1.drop (dF (oL g).1 (oL g).2).toNat)
theorem nF {g:Gr} {x:Int} {k:Nat} :dX g x (k+1)=v8 g x (dX g x k) k:=by
 simp [dX,List.range_succ]
theorem qp {g:Gr} (hm:aO g=true) {x:Int} :∀ {k:Nat},k≤g.es.length→0≤dX g x k∧dX g x k≤g.n
 |0,_=>by have:=aT hm;simp [dX];omega
 |k+1,h=>by
  have ih:=qp hm (x:=x) (k:=k) (by omega)
  obtain ⟨⟨h1,h2⟩,_⟩:=dL hm (k:=k) (by omega)
  rw [nF];unfold v8 tl
  split<;>omega
theorem BF {l:List Int} {m k:Nat} :qE l m (k+1)=qE l m k++ [l.getD ((m+l.length - k) % l.length) 0]:=by
 simp [qE,List.range_succ]
theorem x7 {g:Gr} {way:List Int} {a:Int} (h:a∈way):∀f,nE g f way a=(way,a)
 |0=>rfl
 |f+1=>by simp only [nE];rw [if_pos h]
theorem we:∀ {l:List Int} {x:Int},x∈l→ia l≤x
 |a::r,x,h=>by
  have:∀(r:List Int) (a:Int),r.foldl min a≤a∧∀x∈r,r.foldl min a≤x:=by
   intro r
   induction r with
   |nil=>intro a;exact ⟨Int.le_refl _,by simp⟩
   |cons b r ih=>
    intro a
    obtain ⟨h1,h2⟩:=ih (min a b)
    simp only [List.foldl_cons]
    refine ⟨by omega,fun x hx=> ?_⟩
    rcases List.mem_cons.1 hx with rfl|hx
    ·omega
    ·exact h2 x hx
  obtain ⟨h1,h2⟩:=this r a
  rcases List.mem_cons.1 h with rfl|h
  ·exact h1
  ·exact h2 x h
theorem iL {l:List Int} {m:Nat} (h:m<l.length):l.getD m 0∈l:=by
 rw [List.getD_eq_getElem?_getD,List.getElem?_eq_getElem h];exact List.getElem_mem h
theorem DJ {l:List Int} {m:Nat} (hm:m<l.length) (h1:∀j,j<l.length→l.getD m 0≤l.getD j 0) (h2:∀j,j<m→l.getD m 0<l.getD j 0):dF l (ia l)=m:=by
 have hmin:ia l=l.getD m 0:=by
  have g1:=we (iL hm)
  obtain ⟨j,hj,e⟩:=List.getElem_of_mem (iI (l:=l) (by omega))
  have g2:=h1 j hj
  rw [List.getD_eq_getElem?_getD (l:=l) (i:=j),List.getElem?_eq_getElem hj,Option.getD_some,e] at g2
  omega
 refine dD (d:=0) hm (fun j hj=> ?_) ?_
 ·have:=h2 j hj
  rw [hmin];simp only [decide_eq_false_iff_not];omega
 ·rw [hmin];simp
theorem dz (g:Gr) (hm:aO g=true):Spec Tryz.prog 119 (Args [eG g]) [] (.d (sI (lJ g))) []:=by
 have hn:=aT hm
 have hlf:(v7 g).length=g.n.toNat:=leftK_length
 (refine Spec.intro (C:=T.cfg [] []) (rs:= [.t 2]) (T.aj _ _) Tryz.func119 rfl rfl Tryz.ntmps119 Tryz.results119 (by simp [AObj.isNest]) (by simp [AObj.isNest]) (by kernel_rfl) ?_;intro X hX hP hC aL aM vals hA;refine ⟨_,by simp,hA, ?_⟩;have af:X.P.follows .mixedOrders=true:=(by rw [hP];exact T.mixed);clear aL aM)
 repeat' (first|((first|((with_reducible (first|apply oA|apply oB));exact rfl;intro K hK)|(refine hK _ ?_;clear hK K)|((with_reducible (first|apply oG|apply oH));iterate 3 exact rfl)|((with_reducible apply oI);(iterate 2 exact rfl);intro K hK)|(with_reducible (first|apply wI|apply wJ|apply wK)));try simp only [go_sem,simprocAttr,lI])|(with_reducible (first|apply oC|apply oJ|exact oK|apply wA|apply wB|apply wC hX hC|apply wD hX hC|apply wE hX hC af|apply wF hX hC af|apply wG|apply wH|apply And.intro))|((with_reducible refine oD ?_ ?_);kernel_rfl)|((with_reducible (first|apply oE|apply oF));(iterate 3 exact rfl);all_goals (intro h;first|(exact absurd h (by decide))|((try simp only [go_sem,simprocAttr,lI] at h);(try with_reducible intro K hK);simp only [go_sem,simprocAttr,lI])))|((first|((with_reducible apply wL);exact rfl)|((with_reducible apply wM);exact rfl));all_goals (try ((with_reducible intro h);first|(exact absurd h (by decide))|(try simp only [go_sem,simprocAttr,lI] at h))))|omega|((first|refine aa hX hC hP (cH g hm) rfl rfl rfl (by simp only [go_sem,simprocAttr,lI]) rfl ?_|(refine ai hX hC hP (bp way x bN) rfl rfl rfl ?_ ?_ ?_ ?_;iterate 3 (focus (simp only [go_sem,simprocAttr,lI];done)))|(refine ai hX hC hP (bp way (a:Int) bN) rfl rfl rfl ?_ ?_ ?_ ?_;iterate 3 (focus (simp only [go_sem,simprocAttr,lI];done))));try simp only [go_sem,simprocAttr,lI])|(intro h))
 refine ah (fun k:Nat=>k≤g.n.toNat∧∀j,j<k→(v7 g).getD j false=false) (fun k=>⟨[(1, .ptr 1 0),(4,eN k),(3, .d (sB (v7 g)))], [(1, .box [eN g.n, .d (sE g.es)])]⟩) (fun k=>g.n.toNat - k) 0 (by simp) ?_ ?_
 ·refine Le.of ?_ ?_<;>simp [go_sem,simprocAttr,v7]
 rintro k ⟨hk,hno⟩
 rcases Nat.lt_or_ge k g.n.toNat with hlt|hge
 ·have hb:decide ((k:Int)<g.n)=true:=decide_eq_true (by omega)
  cases hkb:(v7 g).getD k false with
  |false=>
   repeat' (first|((first|((with_reducible (first|apply oA|apply oB));exact rfl;intro K hK)|(refine hK _ ?_;clear hK K)|((with_reducible (first|apply oG|apply oH));iterate 3 exact rfl)|((with_reducible apply oI);(iterate 2 exact rfl);intro K hK)|(with_reducible (first|apply wI|apply wJ|apply wK)));try simp only [go_sem,simprocAttr,hb,hkb,hlf])|(with_reducible (first|apply oC|apply oJ|exact oK|apply wA|apply wB|apply wC hX hC|apply wD hX hC|apply wE hX hC af|apply wF hX hC af|apply wG|apply wH|apply And.intro))|((with_reducible refine oD ?_ ?_);kernel_rfl)|((with_reducible (first|apply oE|apply oF));(iterate 3 exact rfl);all_goals (intro h;first|(exact absurd h (by decide))|((try simp only [go_sem,simprocAttr,hb,hkb,hlf] at h);(try with_reducible intro K hK);simp only [go_sem,simprocAttr,hb,hkb,hlf])))|((first|((with_reducible apply wL);exact rfl)|((with_reducible apply wM);exact rfl));all_goals (try ((with_reducible intro h);first|(exact absurd h (by decide))|(try simp only [go_sem,simprocAttr,hb,hkb,hlf] at h))))|omega|((first|refine aa hX hC hP (cH g hm) rfl rfl rfl (by simp only [go_sem,simprocAttr,hb,hkb,hlf]) rfl ?_|(refine ai hX hC hP (bp way x bN) rfl rfl rfl ?_ ?_ ?_ ?_;iterate 3 (focus (simp only [go_sem,simprocAttr,hb,hkb,hlf];done)))|(refine ai hX hC hP (bp way (a:Int) bN) rfl rfl rfl ?_ ?_ ?_ ?_;iterate 3 (focus (simp only [go_sem,simprocAttr,hb,hkb,hlf];done))));try simp only [go_sem,simprocAttr,hb,hkb,hlf])|(intro h))
   refine ⟨k+1,⟨by omega,fun j hj=> ?_⟩, ?_,by omega⟩
   ·by_cases hjk:j=k
    ·subst hjk;exact hkb
    ·exact hno j (by omega)
   ·(refine Le.of ?_ ?_<;>simp [go_sem,simprocAttr,hb,hkb,hlf])
  |true=>
   have hst:E6 g=k:=by
    have:bM (fun b:Bool=>b) (v7 g)=k:=dD (d:=false) (by omega) hno hkb
    unfold E6;rw [this,if_neg (by omega)]
   have hne:decide ((k:Int)=g.n)=false:=decide_eq_false (by omega)
   repeat' (first|((first|((with_reducible (first|apply oA|apply oB));exact rfl;intro K hK)|(refine hK _ ?_;clear hK K)|((with_reducible (first|apply oG|apply oH));iterate 3 exact rfl)|((with_reducible apply oI);(iterate 2 exact rfl);intro K hK)|(with_reducible (first|apply wI|apply wJ|apply wK)));try simp only [go_sem,simprocAttr,hb,hkb,hlf,hne])|(with_reducible (first|apply oC|apply oJ|exact oK|apply wA|apply wB|apply wC hX hC|apply wD hX hC|apply wE hX hC af|apply wF hX hC af|apply wG|apply wH|apply And.intro))|((with_reducible refine oD ?_ ?_);kernel_rfl)|((with_reducible (first|apply oE|apply oF));(iterate 3 exact rfl);all_goals (intro h;first|(exact absurd h (by decide))|((try simp only [go_sem,simprocAttr,hb,hkb,hlf,hne] at h);(try with_reducible intro K hK);simp only [go_sem,simprocAttr,hb,hkb,hlf,hne])))|((first|((with_reducible apply wL);exact rfl)|((with_reducible apply wM);exact rfl));all_goals (try ((with_reducible intro h);first|(exact absurd h (by decide))|(try simp only [go_sem,simprocAttr,hb,hkb,hlf,hne] at h))))|omega|((first|refine aa hX hC hP (cH g hm) rfl rfl rfl (by simp only [go_sem,simprocAttr,hb,hkb,hlf,hne]) rfl ?_|(refine ai hX hC hP (bp way x bN) rfl rfl rfl ?_ ?_ ?_ ?_;iterate 3 (focus (simp only [go_sem,simprocAttr,hb,hkb,hlf,hne];done)))|(refine ai hX hC hP (bp way (a:Int) bN) rfl rfl rfl ?_ ?_ ?_ ?_;iterate 3 (focus (simp only [go_sem,simprocAttr,hb,hkb,hlf,hne];done))));try simp only [go_sem,simprocAttr,hb,hkb,hlf,hne])|(intro h))
   clear hno hb hne hkb
   (refine pI hX 5 31 39 (by simp only [go_sem,simprocAttr]) rfl (by first|exact .inl rfl|exact .inr rfl) (by decide) ?_;simp only [go_sem,simprocAttr])
   refine ah (fun i:List Int × Int=>Way (gx g) i.1∧(0≤i.2∧i.2≤g.n)∧nE g (left (gx g) i.1) i.1 i.2=oL g) (fun i=>⟨[(1, .ptr 1 0),(4,eN i.2),(3, .d (sB (v7 g))),(5, .ref 39)], [(1, .box [eN g.n, .d (sE g.es)]),(39, .tip 3 1 (i.1.map rI))]⟩) (fun i=>left (gx g) i.1) ([],(k:Int)) ⟨Way.nil _,by simp only;omega, ?_⟩ ?_ ?_
   ·simp only [oz,oL,gx,hst]
    rw [show (g.n+1).toNat=g.n.toNat+1 from by omega]
   ·refine Le.of ?_ ?_<;>simp [go_sem,simprocAttr]
   rintro ⟨way,x⟩ ⟨x6,hx,hrun⟩
   simp only at x6 hx hrun ⊢
   have O5:way.length≤65:=by have:=x6.fuel;simp only [gx] at this;omega
   have bN:way.length≤9223372036854775807:=by omega
   by_cases hmem:x∈way
   ·have hend:=x7 (g:=g) hmem (left (gx g) way)
    rw [hrun] at hend
    obtain ⟨m,w5,hm2,_⟩:=dG hmem
    have hneg:decide ((m:Int)<0)=false:=decide_eq_false (by omega)
    obtain ⟨l,DK⟩:∃l,l=way.drop m:=⟨_,rfl⟩
    have kV:l.length=way.length - m:=by rw [DK];simp
    have HG:lJ g=uM l:=by
     simp only [lJ,hend,w5,Int.toNat_natCast, ← DK]
     rw [if_neg (by omega)]
    repeat' (first|((first|((with_reducible (first|apply oA|apply oB));exact rfl;intro K hK)|(refine hK _ ?_;clear hK K)|((with_reducible (first|apply oG|apply oH));iterate 3 exact rfl)|((with_reducible apply oI);(iterate 2 exact rfl);intro K hK)|(with_reducible (first|apply wI|apply wJ|apply wK)));try simp only [go_sem,simprocAttr,w5,hneg, ← List.map_take, ← List.map_drop,List.take_length, ← DK])|(with_reducible (first|apply oC|apply oJ|exact oK|apply wA|apply wB|apply wC hX hC|apply wD hX hC|apply wE hX hC af|apply wF hX hC af|apply wG|apply wH|apply And.intro))|((with_reducible refine oD ?_ ?_);kernel_rfl)|((with_reducible (first|apply oE|apply oF));(iterate 3 exact rfl);all_goals (intro h;first|(exact absurd h (by decide))|((try simp only [go_sem,simprocAttr,w5,hneg, ← List.map_take, ← List.map_drop,List.take_length, ← DK] at h);(try with_reducible intro K hK);simp only [go_sem,simprocAttr,w5,hneg, ← List.map_take, ← List.map_drop,List.take_length, ← DK])))|((first|((with_reducible apply wL);exact rfl)|((with_reducible apply wM);exact rfl));all_goals (try ((with_reducible intro h);first|(exact absurd h (by decide))|(try simp only [go_sem,simprocAttr,w5,hneg, ← List.map_take, ← List.map_drop,List.take_length, ← DK] at h))))|omega|((first|refine aa hX hC hP (cH g hm) rfl rfl rfl (by simp only [go_sem,simprocAttr,w5,hneg, ← List.map_take, ← List.map_drop,List.take_length, ← DK]) rfl ?_|(refine ai hX hC hP (bp way x bN) rfl rfl rfl ?_ ?_ ?_ ?_;iterate 3 (focus (simp only [go_sem,simprocAttr,w5,hneg, ← List.map_take, ← List.map_drop,List.take_length, ← DK];done)))|(refine ai hX hC hP (bp way (a:Int) bN) rfl rfl rfl ?_ ?_ ?_ ?_;iterate 3 (focus (simp only [go_sem,simprocAttr,w5,hneg, ← List.map_take, ← List.map_drop,List.take_length, ← DK];done))));try simp only [go_sem,simprocAttr,w5,hneg, ← List.map_take, ← List.map_drop,List.take_length, ← DK])|(intro h))
    clear hrun x6 hend w5 hneg DK
    have hl0:0<l.length:=by omega
    have hlm:l.length≤65:=by omega
    refine ah (fun i:Nat × Nat=>i.1≤l.length∧i.2<l.length∧(∀j,j<i.1→l.getD i.2 0≤l.getD j 0)∧(∀j,j<i.2→l.getD i.2 0<l.getD j 0)) (fun i=>⟨[(9,eN i.1),(8,eN i.2),(5, .d (sI l))], []⟩) (fun i=>l.length - i.1) (0,0) ⟨by simp,hl0,by simp,by simp⟩ ?_ ?_
    ·refine Le.of ?_ ?_<;>simp [go_sem,simprocAttr]
    rintro ⟨i,q⟩ ⟨hi,hq,hq1,FE⟩
    simp only at hi hq hq1 FE ⊢
    rcases Nat.lt_or_ge i l.length with hil|JY
    ·have hb:decide ((i:Int)<(l.length:Int))=true:=decide_eq_true (by omega)
     repeat' (first|((first|((with_reducible (first|apply oA|apply oB));exact rfl;intro K hK)|(refine hK _ ?_;clear hK K)|((with_reducible (first|apply oG|apply oH));iterate 3 exact rfl)|((with_reducible apply oI);(iterate 2 exact rfl);intro K hK)|(with_reducible (first|apply wI|apply wJ|apply wK)));try simp only [go_sem,simprocAttr,hb])|(with_reducible (first|apply oC|apply oJ|exact oK|apply wA|apply wB|apply wC hX hC|apply wD hX hC|apply wE hX hC af|apply wF hX hC af|apply wG|apply wH|apply And.intro))|((with_reducible refine oD ?_ ?_);kernel_rfl)|((with_reducible (first|apply oE|apply oF));(iterate 3 exact rfl);all_goals (intro h;first|(exact absurd h (by decide))|((try simp only [go_sem,simprocAttr,hb] at h);(try with_reducible intro K hK);simp only [go_sem,simprocAttr,hb])))|((first|((with_reducible apply wL);exact rfl)|((with_reducible apply wM);exact rfl));all_goals (try ((with_reducible intro h);first|(exact absurd h (by decide))|(try simp only [go_sem,simprocAttr,hb] at h))))|omega|((first|refine aa hX hC hP (cH g hm) rfl rfl rfl (by simp only [go_sem,simprocAttr,hb]) rfl ?_|(refine ai hX hC hP (bp way x bN) rfl rfl rfl ?_ ?_ ?_ ?_;iterate 3 (focus (simp only [go_sem,simprocAttr,hb];done)))|(refine ai hX hC hP (bp way (a:Int) bN) rfl rfl rfl ?_ ?_ ?_ ?_;iterate 3 (focus (simp only [go_sem,simprocAttr,hb];done))));try simp only [go_sem,simprocAttr,hb])|(intro h))
     ·refine ⟨(i+1,i),⟨by simp only;omega,hil,fun j hj=> ?_,fun j hj=> ?_⟩, ?_,by simp only;omega⟩
      ·simp only at hj ⊢
       by_cases hji:j=i
       ·subst hji;exact Int.le_refl _
       ·have:=hq1 j (by omega);omega
      ·simp only at hj ⊢
       have:=hq1 j hj;omega
      ·refine Le.of ?_ ?_<;>simp [go_sem,simprocAttr]
     ·refine ⟨(i+1,q),⟨by simp only;omega,hq,fun j hj=> ?_,FE⟩, ?_,by simp only;omega⟩
      ·simp only at hj ⊢
       by_cases hji:j=i
       ·subst hji;omega
       ·exact hq1 j (by omega)
      ·refine Le.of ?_ ?_<;>simp [go_sem,simprocAttr]
    ·have hb:decide ((i:Int)<(l.length:Int))=false:=decide_eq_false (by omega)
     obtain rfl:i=l.length:=by omega
     have hidx:=DJ hq hq1 FE
     repeat' (first|((first|((with_reducible (first|apply oA|apply oB));exact rfl;intro K hK)|(refine hK _ ?_;clear hK K)|((with_reducible (first|apply oG|apply oH));iterate 3 exact rfl)|((with_reducible apply oI);(iterate 2 exact rfl);intro K hK)|(with_reducible (first|apply wI|apply wJ|apply wK)));try simp only [go_sem,simprocAttr,hb])|(with_reducible (first|apply oC|apply oJ|exact oK|apply wA|apply wB|apply wC hX hC|apply wD hX hC|apply wE hX hC af|apply wF hX hC af|apply wG|apply wH|apply And.intro))|((with_reducible refine oD ?_ ?_);kernel_rfl)|((with_reducible (first|apply oE|apply oF));(iterate 3 exact rfl);all_goals (intro h;first|(exact absurd h (by decide))|((try simp only [go_sem,simprocAttr,hb] at h);(try with_reducible intro K hK);simp only [go_sem,simprocAttr,hb])))|((first|((with_reducible apply wL);exact rfl)|((with_reducible apply wM);exact rfl));all_goals (try ((with_reducible intro h);first|(exact absurd h (by decide))|(try simp only [go_sem,simprocAttr,hb] at h))))|omega|((first|refine aa hX hC hP (cH g hm) rfl rfl rfl (by simp only [go_sem,simprocAttr,hb]) rfl ?_|(refine ai hX hC hP (bp way x bN) rfl rfl rfl ?_ ?_ ?_ ?_;iterate 3 (focus (simp only [go_sem,simprocAttr,hb];done)))|(refine ai hX hC hP (bp way (a:Int) bN) rfl rfl rfl ?_ ?_ ?_ ?_;iterate 3 (focus (simp only [go_sem,simprocAttr,hb];done))));try simp only [go_sem,simprocAttr,hb])|(intro h))
     clear hi hb JY
     (refine pI hX 10 98 119 (by simp only [go_sem,simprocAttr]) rfl (by first|exact .inl rfl|exact .inr rfl) (by decide) ?_;simp only [go_sem,simprocAttr])
     refine ah (fun i:Nat=>i≤l.length) (fun i=>⟨[(5, .d (sI l)),(8,eN q),(11,eN i),(10, .ref 119)], [(119, .tip 3 1 ((qE l q i).map rI))]⟩) (fun i=>l.length - i) 0 (by simp) ?_ ?_
     ·refine Le.of ?_ ?_<;>simp [go_sem,simprocAttr,qE]
     rintro i hi
     have hrl:(qE l q i).length=i:=by simp [qE]
     rcases Nat.lt_or_ge i l.length with hil|JY
     ·have hb:decide ((i:Int)<(l.length:Int))=true:=decide_eq_true (by omega)
      have E4:((q:Int)+(l.length:Int) - (i:Int)).tmod (l.length:Int)=(((q+l.length - i) % l.length:Nat):Int):=by
       rw [show (q:Int)+(l.length:Int) - (i:Int)=((q+l.length - i:Nat):Int) from by omega]
       rw [Int.tmod_eq_emod_of_nonneg (by omega)];rfl
      have hmod:(q+l.length - i) % l.length<l.length:=Nat.mod_lt _ hl0
      repeat' (first|((first|((with_reducible (first|apply oA|apply oB));exact rfl;intro K hK)|(refine hK _ ?_;clear hK K)|((with_reducible (first|apply oG|apply oH));iterate 3 exact rfl)|((with_reducible apply oI);(iterate 2 exact rfl);intro K hK)|(with_reducible (first|apply wI|apply wJ|apply wK)));try simp only [go_sem,simprocAttr,hb,E4])|(with_reducible (first|apply oC|apply oJ|exact oK|apply wA|apply wB|apply wC hX hC|apply wD hX hC|apply wE hX hC af|apply wF hX hC af|apply wG|apply wH|apply And.intro))|((with_reducible refine oD ?_ ?_);kernel_rfl)|((with_reducible (first|apply oE|apply oF));(iterate 3 exact rfl);all_goals (intro h;first|(exact absurd h (by decide))|((try simp only [go_sem,simprocAttr,hb,E4] at h);(try with_reducible intro K hK);simp only [go_sem,simprocAttr,hb,E4])))|((first|((with_reducible apply wL);exact rfl)|((with_reducible apply wM);exact rfl));all_goals (try ((with_reducible intro h);first|(exact absurd h (by decide))|(try simp only [go_sem,simprocAttr,hb,E4] at h))))|omega|((first|refine aa hX hC hP (cH g hm) rfl rfl rfl (by simp only [go_sem,simprocAttr,hb,E4]) rfl ?_|(refine ai hX hC hP (bp way x bN) rfl rfl rfl ?_ ?_ ?_ ?_;iterate 3 (focus (simp only [go_sem,simprocAttr,hb,E4];done)))|(refine ai hX hC hP (bp way (a:Int) bN) rfl rfl rfl ?_ ?_ ?_ ?_;iterate 3 (focus (simp only [go_sem,simprocAttr,hb,E4];done))));try simp only [go_sem,simprocAttr,hb,E4])|(intro h))
      refine ⟨i+1,by omega, ?_,by omega⟩
      rw [BF]
      refine Le.of ?_ ?_<;>simp [go_sem,simprocAttr,rI]
     ·have hb:decide ((i:Int)<(l.length:Int))=false:=decide_eq_false (by omega)
      obtain rfl:i=l.length:=by omega
      repeat' (first|((first|((with_reducible (first|apply oA|apply oB));exact rfl;intro K hK)|(refine hK _ ?_;clear hK K)|((with_reducible (first|apply oG|apply oH));iterate 3 exact rfl)|((with_reducible apply oI);(iterate 2 exact rfl);intro K hK)|(with_reducible (first|apply wI|apply wJ|apply wK)));try simp only [go_sem,simprocAttr,hb])|(with_reducible (first|apply oC|apply oJ|exact oK|apply wA|apply wB|apply wC hX hC|apply wD hX hC|apply wE hX hC af|apply wF hX hC af|apply wG|apply wH|apply And.intro))|((with_reducible refine oD ?_ ?_);kernel_rfl)|((with_reducible (first|apply oE|apply oF));(iterate 3 exact rfl);all_goals (intro h;first|(exact absurd h (by decide))|((try simp only [go_sem,simprocAttr,hb] at h);(try with_reducible intro K hK);simp only [go_sem,simprocAttr,hb])))|((first|((with_reducible apply wL);exact rfl)|((with_reducible apply wM);exact rfl));all_goals (try ((with_reducible intro h);first|(exact absurd h (by decide))|(try simp only [go_sem,simprocAttr,hb] at h))))|omega|((first|refine aa hX hC hP (cH g hm) rfl rfl rfl (by simp only [go_sem,simprocAttr,hb]) rfl ?_|(refine ai hX hC hP (bp way x bN) rfl rfl rfl ?_ ?_ ?_ ?_;iterate 3 (focus (simp only [go_sem,simprocAttr,hb];done)))|(refine ai hX hC hP (bp way (a:Int) bN) rfl rfl rfl ?_ ?_ ?_ ?_;iterate 3 (focus (simp only [go_sem,simprocAttr,hb];done))));try simp only [go_sem,simprocAttr,hb])|(intro h))
      rw [HG,uM,hidx];rfl
   ·have hi:dF way x= -1:=by
     rcases fZ (f:=fun y:Int=>decide (x=y)) (l:=way) 0 with ⟨h1,_⟩|⟨q,_,h2,h3,_⟩
     ·exact h1
     ·exact absurd (by rw [of_decide_eq_true h3,List.getD_eq_getElem?_getD,List.getElem?_eq_getElem h2];exact List.getElem_mem h2) hmem
    obtain ⟨a,rfl⟩:∃a:Nat,x=a:=⟨x.toNat,by omega⟩
    have GA:a<(gx g).n.toNat:=by simp only [gx];omega
    repeat' (first|((first|((with_reducible (first|apply oA|apply oB));exact rfl;intro K hK)|(refine hK _ ?_;clear hK K)|((with_reducible (first|apply oG|apply oH));iterate 3 exact rfl)|((with_reducible apply oI);(iterate 2 exact rfl);intro K hK)|(with_reducible (first|apply wI|apply wJ|apply wK)));try simp only [go_sem,simprocAttr,hi])|(with_reducible (first|apply oC|apply oJ|exact oK|apply wA|apply wB|apply wC hX hC|apply wD hX hC|apply wE hX hC af|apply wF hX hC af|apply wG|apply wH|apply And.intro))|((with_reducible refine oD ?_ ?_);kernel_rfl)|((with_reducible (first|apply oE|apply oF));(iterate 3 exact rfl);all_goals (intro h;first|(exact absurd h (by decide))|((try simp only [go_sem,simprocAttr,hi] at h);(try with_reducible intro K hK);simp only [go_sem,simprocAttr,hi])))|((first|((with_reducible apply wL);exact rfl)|((with_reducible apply wM);exact rfl));all_goals (try ((with_reducible intro h);first|(exact absurd h (by decide))|(try simp only [go_sem,simprocAttr,hi] at h))))|omega|((first|refine aa hX hC hP (cH g hm) rfl rfl rfl (by simp only [go_sem,simprocAttr,hi]) rfl ?_|(refine ai hX hC hP (bp way x bN) rfl rfl rfl ?_ ?_ ?_ ?_;iterate 3 (focus (simp only [go_sem,simprocAttr,hi];done)))|(refine ai hX hC hP (bp way (a:Int) bN) rfl rfl rfl ?_ ?_ ?_ ?_;iterate 3 (focus (simp only [go_sem,simprocAttr,hi];done))));try simp only [go_sem,simprocAttr,hi])|(intro h))
    refine ah (fun j:Nat=>j≤g.es.length) (fun j=>⟨[(1, .ptr 1 0),(4,eN a),(3, .d (sB (v7 g))),(5, .ref 39),(6,eN (dX g a j)),(7,eN j)], [(1, .box [eN g.n, .d (sE g.es)]),(39, .tip 3 1 ((way++ [(a:Int)]).map rI))]⟩) (fun j=>g.es.length - j) 0 (by simp) ?_ ?_
    ·refine Le.of ?_ ?_<;>simp [go_sem,simprocAttr,rI,dX]
    rintro j hj
    rcases Nat.lt_or_ge j g.es.length with hjl|IN
    ·have ak:decide ((j:Int)<(g.es.length:Int))=true:=decide_eq_true (by omega)
     obtain ⟨⟨FP,uq⟩,_⟩:=dL hm hjl
     have eV:dX g a (j+1)=if (g.es.getD j (0,0)).2=(a:Int)∧(v7 g).getD (g.es.getD j (0,0)).1.toNat false=true then min (dX g a j) (g.es.getD j (0,0)).1 else dX g a j:=nF
     repeat' (first|((first|((with_reducible (first|apply oA|apply oB));exact rfl;intro K hK)|(refine hK _ ?_;clear hK K)|((with_reducible (first|apply oG|apply oH));iterate 3 exact rfl)|((with_reducible apply oI);(iterate 2 exact rfl);intro K hK)|(with_reducible (first|apply wI|apply wJ|apply wK)));try simp only [go_sem,simprocAttr,ak,hlf])|(with_reducible (first|apply oC|apply oJ|exact oK|apply wA|apply wB|apply wC hX hC|apply wD hX hC|apply wE hX hC af|apply wF hX hC af|apply wG|apply wH|apply And.intro))|((with_reducible refine oD ?_ ?_);kernel_rfl)|((with_reducible (first|apply oE|apply oF));(iterate 3 exact rfl);all_goals (intro h;first|(exact absurd h (by decide))|((try simp only [go_sem,simprocAttr,ak,hlf] at h);(try with_reducible intro K hK);simp only [go_sem,simprocAttr,ak,hlf])))|((first|((with_reducible apply wL);exact rfl)|((with_reducible apply wM);exact rfl));all_goals (try ((with_reducible intro h);first|(exact absurd h (by decide))|(try simp only [go_sem,simprocAttr,ak,hlf] at h))))|omega|((first|refine aa hX hC hP (cH g hm) rfl rfl rfl (by simp only [go_sem,simprocAttr,ak,hlf]) rfl ?_|(refine ai hX hC hP (bp way x bN) rfl rfl rfl ?_ ?_ ?_ ?_;iterate 3 (focus (simp only [go_sem,simprocAttr,ak,hlf];done)))|(refine ai hX hC hP (bp way (a:Int) bN) rfl rfl rfl ?_ ?_ ?_ ?_;iterate 3 (focus (simp only [go_sem,simprocAttr,ak,hlf];done))));try simp only [go_sem,simprocAttr,ak,hlf])|(intro h))
     all_goals (first|rw [if_pos ⟨by assumption,by assumption⟩] at eV|rw [if_neg (fun e=>by first|exact absurd e.1 (by assumption)|simp_all)] at eV)
     all_goals (refine ⟨j+1,by omega, ?_,by omega⟩;refine Le.of ?_ ?_<;>simp [go_sem,simprocAttr,eV])
    ·have ak:decide ((j:Int)<(g.es.length:Int))=false:=decide_eq_false (by omega)
     obtain rfl:j=g.es.length:=by omega
     repeat' (first|((first|((with_reducible (first|apply oA|apply oB));exact rfl;intro K hK)|(refine hK _ ?_;clear hK K)|((with_reducible (first|apply oG|apply oH));iterate 3 exact rfl)|((with_reducible apply oI);(iterate 2 exact rfl);intro K hK)|(with_reducible (first|apply wI|apply wJ|apply wK)));try simp only [go_sem,simprocAttr,ak])|(with_reducible (first|apply oC|apply oJ|exact oK|apply wA|apply wB|apply wC hX hC|apply wD hX hC|apply wE hX hC af|apply wF hX hC af|apply wG|apply wH|apply And.intro))|((with_reducible refine oD ?_ ?_);kernel_rfl)|((with_reducible (first|apply oE|apply oF));(iterate 3 exact rfl);all_goals (intro h;first|(exact absurd h (by decide))|((try simp only [go_sem,simprocAttr,ak] at h);(try with_reducible intro K hK);simp only [go_sem,simprocAttr,ak])))|((first|((with_reducible apply wL);exact rfl)|((with_reducible apply wM);exact rfl));all_goals (try ((with_reducible intro h);first|(exact absurd h (by decide))|(try simp only [go_sem,simprocAttr,ak] at h))))|omega|((first|refine aa hX hC hP (cH g hm) rfl rfl rfl (by simp only [go_sem,simprocAttr,ak]) rfl ?_|(refine ai hX hC hP (bp way x bN) rfl rfl rfl ?_ ?_ ?_ ?_;iterate 3 (focus (simp only [go_sem,simprocAttr,ak];done)))|(refine ai hX hC hP (bp way (a:Int) bN) rfl rfl rfl ?_ ?_ ?_ ?_;iterate 3 (focus (simp only [go_sem,simprocAttr,ak];done))));try simp only [go_sem,simprocAttr,ak])|(intro h))
     refine ⟨(way++ [(a:Int)],dX g a g.es.length),⟨x6.next GA hmem,qp hm (Nat.le_refl _), ?_⟩, ?_, ?_⟩
     ·simp only
      rw [← hrun,iH GA hmem]
      simp only [nE]
      rw [if_neg hmem]
     ·refine Le.of ?_ ?_<;>simp [go_sem,simprocAttr]
     ·have:=iH GA hmem;simp only;omega
 ·have hb:decide ((k:Int)<g.n)=false:=decide_eq_false (by omega)
  have hst:E6 g=g.n:=by
   have:bM (fun b:Bool=>b) (v7 g)= -1:=cA false fun j hj=>hno j (by omega)
   unfold E6;rw [this,if_pos (by omega)]
  have hne:decide ((k:Int)=g.n)=true:=decide_eq_true (by omega)
  repeat' (first|((first|((with_reducible (first|apply oA|apply oB));exact rfl;intro K hK)|(refine hK _ ?_;clear hK K)|((with_reducible (first|apply oG|apply oH));iterate 3 exact rfl)|((with_reducible apply oI);(iterate 2 exact rfl);intro K hK)|(with_reducible (first|apply wI|apply wJ|apply wK)));try simp only [go_sem,simprocAttr,hb,hne])|(with_reducible (first|apply oC|apply oJ|exact oK|apply wA|apply wB|apply wC hX hC|apply wD hX hC|apply wE hX hC af|apply wF hX hC af|apply wG|apply wH|apply And.intro))|((with_reducible refine oD ?_ ?_);kernel_rfl)|((with_reducible (first|apply oE|apply oF));(iterate 3 exact rfl);all_goals (intro h;first|(exact absurd h (by decide))|((try simp only [go_sem,simprocAttr,hb,hne] at h);(try with_reducible intro K hK);simp only [go_sem,simprocAttr,hb,hne])))|((first|((with_reducible apply wL);exact rfl)|((with_reducible apply wM);exact rfl));all_goals (try ((with_reducible intro h);first|(exact absurd h (by decide))|(try simp only [go_sem,simprocAttr,hb,hne] at h))))|omega|((first|refine aa hX hC hP (cH g hm) rfl rfl rfl (by simp only [go_sem,simprocAttr,hb,hne]) rfl ?_|(refine ai hX hC hP (bp way x bN) rfl rfl rfl ?_ ?_ ?_ ?_;iterate 3 (focus (simp only [go_sem,simprocAttr,hb,hne];done)))|(refine ai hX hC hP (bp way (a:Int) bN) rfl rfl rfl ?_ ?_ ?_ ?_;iterate 3 (focus (simp only [go_sem,simprocAttr,hb,hne];done))));try simp only [go_sem,simprocAttr,hb,hne])|(intro h))
  simp only [lJ];rw [if_pos hst];rfl
end Go.Ab
end
section
namespace Go.Ab
open Go.Proofs
attribute [local congr] ACall.congr
set_option maxRecDepth 10000
def fP (g:Gr):Int × Int × List Int:=gH g (lJ g) (bD (·.2) g)
theorem x8 {l:List Edge} {k:Nat} {x:Edge} :x∈l.take k↔∃j,j<k∧j<l.length∧l.getD j (0,0)=x:=by
 rw [List.mem_iff_getElem?]
 constructor
 ·rintro ⟨j,hj⟩
  rw [List.getElem?_take] at hj
  split at hj
  ·exact ⟨j,by assumption,(List.getElem?_eq_some_iff.1 hj).1,by rw [List.getD_eq_getElem?_getD,hj];rfl⟩
  ·cases hj
 ·rintro ⟨j,h1,h2,h3⟩
  refine ⟨j, ?_⟩
  rw [List.getElem?_take,if_pos h1,List.getElem?_eq_getElem h2]
  rw [List.getD_eq_getElem?_getD,List.getElem?_eq_getElem h2] at h3
  exact congrArg some h3
theorem uc (g:Gr) (hl0:g.es.length≤1000):Spec Tryz.prog 99 (Args [eG g]) [] (.tup [eN (fP g).1,eN (fP g).2.1, .d (sI (fP g).2.2)]) []:=by
 have hl:g.es.length≤9223372036854775807:=by omega
 (refine Spec.intro (C:=T.cfg [] []) (rs:= [.t 2, .t 3, .t 4]) (T.aj _ _) Tryz.func99 rfl rfl Tryz.ntmps99 Tryz.results99 (by simp [AObj.isNest]) (by simp [AObj.isNest]) (by kernel_rfl) ?_;intro X hX hP hC aL aM vals hA;refine ⟨_,by simp,hA, ?_⟩;have af:X.P.follows .mixedOrders=true:=(by rw [hP];exact T.mixed);clear aL aM)
 cases hm:aO g with
 |false=>
  repeat' (first|((first|((with_reducible (first|apply oA|apply oB));exact rfl;intro K hK)|(refine hK _ ?_;clear hK K)|((with_reducible (first|apply oG|apply oH));iterate 3 exact rfl)|((with_reducible apply oI);(iterate 2 exact rfl);intro K hK)|(with_reducible (first|apply wI|apply wJ|apply wK)));try simp only [go_sem,simprocAttr,hm])|(with_reducible (first|apply oC|apply oJ|exact oK|apply wA|apply wB|apply wC hX hC|apply wD hX hC|apply wE hX hC af|apply wF hX hC af|apply wG|apply wH|apply And.intro))|((with_reducible refine oD ?_ ?_);kernel_rfl)|((with_reducible (first|apply oE|apply oF));(iterate 3 exact rfl);all_goals (intro h;first|(exact absurd h (by decide))|((try simp only [go_sem,simprocAttr,hm] at h);(try with_reducible intro K hK);simp only [go_sem,simprocAttr,hm])))|((first|((with_reducible apply wL);exact rfl)|((with_reducible apply wM);exact rfl));all_goals (try ((with_reducible intro h);first|(exact absurd h (by decide))|(try simp only [go_sem,simprocAttr,hm] at h))))|omega|((first|refine aa hX hC hP (cO g hl) rfl rfl rfl (by simp only [go_sem,simprocAttr,hm]) rfl ?_|refine aa hX hC hP (dz g hm) rfl rfl rfl (by simp only [go_sem,simprocAttr,hm]) rfl ?_|refine aa hX hC hP (cR g true hl0 hn0) rfl rfl rfl (by simp only [go_sem,simprocAttr,hm]) rfl ?_);try simp only [go_sem,simprocAttr,hm])|(intro h))
  all_goals simp [fP,gH,hm]
 |true=>
 have hn:=aT hm
 have hn0:0≤g.n∧g.n≤1000:=by omega
 repeat' (first|((first|((with_reducible (first|apply oA|apply oB));exact rfl;intro K hK)|(refine hK _ ?_;clear hK K)|((with_reducible (first|apply oG|apply oH));iterate 3 exact rfl)|((with_reducible apply oI);(iterate 2 exact rfl);intro K hK)|(with_reducible (first|apply wI|apply wJ|apply wK)));try simp only [go_sem,simprocAttr,hm])|(with_reducible (first|apply oC|apply oJ|exact oK|apply wA|apply wB|apply wC hX hC|apply wD hX hC|apply wE hX hC af|apply wF hX hC af|apply wG|apply wH|apply And.intro))|((with_reducible refine oD ?_ ?_);kernel_rfl)|((with_reducible (first|apply oE|apply oF));(iterate 3 exact rfl);all_goals (intro h;first|(exact absurd h (by decide))|((try simp only [go_sem,simprocAttr,hm] at h);(try with_reducible intro K hK);simp only [go_sem,simprocAttr,hm])))|((first|((with_reducible apply wL);exact rfl)|((with_reducible apply wM);exact rfl));all_goals (try ((with_reducible intro h);first|(exact absurd h (by decide))|(try simp only [go_sem,simprocAttr,hm] at h))))|omega|((first|refine aa hX hC hP (cO g hl) rfl rfl rfl (by simp only [go_sem,simprocAttr,hm]) rfl ?_|refine aa hX hC hP (dz g hm) rfl rfl rfl (by simp only [go_sem,simprocAttr,hm]) rfl ?_|refine aa hX hC hP (cR g true hl0 hn0) rfl rfl rfl (by simp only [go_sem,simprocAttr,hm]) rfl ?_);try simp only [go_sem,simprocAttr,hm])|(intro h))
 refine ah (fun k:Nat=>k≤g.es.length∧∀j,j<k→decide ((g.es.getD j (0,0)).1=(g.es.getD j (0,0)).2)=false) (fun k=>⟨[(5,eN k),(1, .ptr 1 0)], [(1, .box [eN g.n, .d (sE g.es)])]⟩) (fun k=>g.es.length - k) 0 (by simp) ?_ ?_
 ·(refine Le.of ?_ ?_<;>simp [go_sem,simprocAttr,hm])
 rintro k ⟨hk,hno⟩
 rcases Nat.lt_or_ge k g.es.length with hlt|hge
 ·have ak:decide ((k:Int)<(g.es.length:Int))=true:=decide_eq_true (by omega)
  repeat' (first|((first|((with_reducible (first|apply oA|apply oB));exact rfl;intro K hK)|(refine hK _ ?_;clear hK K)|((with_reducible (first|apply oG|apply oH));iterate 3 exact rfl)|((with_reducible apply oI);(iterate 2 exact rfl);intro K hK)|(with_reducible (first|apply wI|apply wJ|apply wK)));try simp only [go_sem,simprocAttr,hm,ak])|(with_reducible (first|apply oC|apply oJ|exact oK|apply wA|apply wB|apply wC hX hC|apply wD hX hC|apply wE hX hC af|apply wF hX hC af|apply wG|apply wH|apply And.intro))|((with_reducible refine oD ?_ ?_);kernel_rfl)|((with_reducible (first|apply oE|apply oF));(iterate 3 exact rfl);all_goals (intro h;first|(exact absurd h (by decide))|((try simp only [go_sem,simprocAttr,hm,ak] at h);(try with_reducible intro K hK);simp only [go_sem,simprocAttr,hm,ak])))|((first|((with_reducible apply wL);exact rfl)|((with_reducible apply wM);exact rfl));all_goals (try ((with_reducible intro h);first|(exact absurd h (by decide))|(try simp only [go_sem,simprocAttr,hm,ak] at h))))|omega|((first|refine aa hX hC hP (cO g hl) rfl rfl rfl (by simp only [go_sem,simprocAttr,hm,ak]) rfl ?_|refine aa hX hC hP (dz g hm) rfl rfl rfl (by simp only [go_sem,simprocAttr,hm,ak]) rfl ?_|refine aa hX hC hP (cR g true hl0 hn0) rfl rfl rfl (by simp only [go_sem,simprocAttr,hm,ak]) rfl ?_);try simp only [go_sem,simprocAttr,hm,ak])|(intro h))
  any_goals (
   have hlo:jP g=(k:Int):=dD (d:=(0,0)) hlt hno (decide_eq_true h)
   have hc:fP g=(13,jP g, []):=by
    simp only [fP,gH];rw [if_neg (by simp [hm]),if_pos (by omega)]
   rw [hc]<;>first|rfl|exact hlo.symm)
  refine ⟨k+1,⟨by omega,fun j hj=> ?_⟩, ?_,by omega⟩
  ·by_cases hjk:j=k
   ·subst hjk;exact h
   ·simpa using hno j (by omega)
  ·(refine Le.of ?_ ?_<;>simp [go_sem,simprocAttr,hm,ak])
 ·have ak:decide ((k:Int)<(g.es.length:Int))=false:=decide_eq_false (by omega)
  have hlo:¬0≤jP g:=by
   have:jP g= -1:=cA (0,0) fun j hj=>hno j (by omega)
   omega
  repeat' (first|((first|((with_reducible (first|apply oA|apply oB));exact rfl;intro K hK)|(refine hK _ ?_;clear hK K)|((with_reducible (first|apply oG|apply oH));iterate 3 exact rfl)|((with_reducible apply oI);(iterate 2 exact rfl);intro K hK)|(with_reducible (first|apply wI|apply wJ|apply wK)));try simp only [go_sem,simprocAttr,hm,ak])|(with_reducible (first|apply oC|apply oJ|exact oK|apply wA|apply wB|apply wC hX hC|apply wD hX hC|apply wE hX hC af|apply wF hX hC af|apply wG|apply wH|apply And.intro))|((with_reducible refine oD ?_ ?_);kernel_rfl)|((with_reducible (first|apply oE|apply oF));(iterate 3 exact rfl);all_goals (intro h;first|(exact absurd h (by decide))|((try simp only [go_sem,simprocAttr,hm,ak] at h);(try with_reducible intro K hK);simp only [go_sem,simprocAttr,hm,ak])))|((first|((with_reducible apply wL);exact rfl)|((with_reducible apply wM);exact rfl));all_goals (try ((with_reducible intro h);first|(exact absurd h (by decide))|(try simp only [go_sem,simprocAttr,hm,ak] at h))))|omega|((first|refine aa hX hC hP (cO g hl) rfl rfl rfl (by simp only [go_sem,simprocAttr,hm,ak]) rfl ?_|refine aa hX hC hP (dz g hm) rfl rfl rfl (by simp only [go_sem,simprocAttr,hm,ak]) rfl ?_|refine aa hX hC hP (cR g true hl0 hn0) rfl rfl rfl (by simp only [go_sem,simprocAttr,hm,ak]) rfl ?_);try simp only [go_sem,simprocAttr,hm,ak])|(intro h))
  clear hno ak hk hge
  refine ah (fun k:Nat=>k≤g.es.length∧∀j,j<k→nv g j=false) (fun k=>⟨[(6,eN k),(1, .ptr 1 0)], [(1, .box [eN g.n, .d (sE g.es)])]⟩) (fun k=>g.es.length - k) 0 (by simp) ?_ ?_
  ·(refine Le.of ?_ ?_<;>simp [go_sem,simprocAttr])
  rintro k ⟨hk,HH⟩
  rcases Nat.lt_or_ge k g.es.length with hlt|hge
  ·have ak:decide ((k:Int)<(g.es.length:Int))=true:=decide_eq_true (by omega)
   repeat' (first|((first|((with_reducible (first|apply oA|apply oB));exact rfl;intro K hK)|(refine hK _ ?_;clear hK K)|((with_reducible (first|apply oG|apply oH));iterate 3 exact rfl)|((with_reducible apply oI);(iterate 2 exact rfl);intro K hK)|(with_reducible (first|apply wI|apply wJ|apply wK)));try simp only [go_sem,simprocAttr,hm,ak])|(with_reducible (first|apply oC|apply oJ|exact oK|apply wA|apply wB|apply wC hX hC|apply wD hX hC|apply wE hX hC af|apply wF hX hC af|apply wG|apply wH|apply And.intro))|((with_reducible refine oD ?_ ?_);kernel_rfl)|((with_reducible (first|apply oE|apply oF));(iterate 3 exact rfl);all_goals (intro h;first|(exact absurd h (by decide))|((try simp only [go_sem,simprocAttr,hm,ak] at h);(try with_reducible intro K hK);simp only [go_sem,simprocAttr,hm,ak])))|((first|((with_reducible apply wL);exact rfl)|((with_reducible apply wM);exact rfl));all_goals (try ((with_reducible intro h);first|(exact absurd h (by decide))|(try simp only [go_sem,simprocAttr,hm,ak] at h))))|omega|((first|refine aa hX hC hP (cO g hl) rfl rfl rfl (by simp only [go_sem,simprocAttr,hm,ak]) rfl ?_|refine aa hX hC hP (dz g hm) rfl rfl rfl (by simp only [go_sem,simprocAttr,hm,ak]) rfl ?_|refine aa hX hC hP (cR g true hl0 hn0) rfl rfl rfl (by simp only [go_sem,simprocAttr,hm,ak]) rfl ?_);try simp only [go_sem,simprocAttr,hm,ak])|(intro h))
   refine ah (fun q:Nat=>q≤k∧∀j,j<q→¬g.es.getD j (0,0)=g.es.getD k (0,0)) (fun q=>⟨[(6,eN k),(7,eN q),(1, .ptr 1 0)], [(1, .box [eN g.n, .d (sE g.es)])]⟩) (fun q=>k - q) 0 (by simp) ?_ ?_
   ·(refine Le.of ?_ ?_<;>simp [go_sem,simprocAttr,hm,ak])
   rintro q ⟨hq,hne⟩
   rcases Nat.lt_or_ge q k with NI|NI
   ·have cQ:decide ((q:Int)<(k:Int))=true:=decide_eq_true (by omega)
    repeat' (first|((first|((with_reducible (first|apply oA|apply oB));exact rfl;intro K hK)|(refine hK _ ?_;clear hK K)|((with_reducible (first|apply oG|apply oH));iterate 3 exact rfl)|((with_reducible apply oI);(iterate 2 exact rfl);intro K hK)|(with_reducible (first|apply wI|apply wJ|apply wK)));try simp only [go_sem,simprocAttr,cQ,ku])|(with_reducible (first|apply oC|apply oJ|exact oK|apply wA|apply wB|apply wC hX hC|apply wD hX hC|apply wE hX hC af|apply wF hX hC af|apply wG|apply wH|apply And.intro))|((with_reducible refine oD ?_ ?_);kernel_rfl)|((with_reducible (first|apply oE|apply oF));(iterate 3 exact rfl);all_goals (intro h;first|(exact absurd h (by decide))|((try simp only [go_sem,simprocAttr,cQ,ku] at h);(try with_reducible intro K hK);simp only [go_sem,simprocAttr,cQ,ku])))|((first|((with_reducible apply wL);exact rfl)|((with_reducible apply wM);exact rfl));all_goals (try ((with_reducible intro h);first|(exact absurd h (by decide))|(try simp only [go_sem,simprocAttr,cQ,ku] at h))))|omega|((first|refine aa hX hC hP (cO g hl) rfl rfl rfl (by simp only [go_sem,simprocAttr,cQ,ku]) rfl ?_|refine aa hX hC hP (dz g hm) rfl rfl rfl (by simp only [go_sem,simprocAttr,cQ,ku]) rfl ?_|refine aa hX hC hP (cR g true hl0 hn0) rfl rfl rfl (by simp only [go_sem,simprocAttr,cQ,ku]) rfl ?_);try simp only [go_sem,simprocAttr,cQ,ku])|(intro h))
    any_goals (
     have DH:nv g k=true:=decide_eq_true (x8.2 ⟨q,NI,by omega,h⟩)
     have Ms:eZ g=(k:Int):=dD (d:=0) (by simpa using hlt) (fun j hj=>by rw [ga (by omega)];exact HH j hj) (by rw [ga hlt];exact DH)
     have hc:fP g=(14,eZ g, []):=by
      simp only [fP,gH];rw [if_neg (by simp [hm]),if_neg hlo,if_pos (by omega)]
     rw [hc]<;>first|rfl|exact Ms.symm)
    refine ⟨q+1,⟨by omega,fun j hj=> ?_⟩, ?_,by omega⟩
    ·by_cases hjk:j=q
     ·subst hjk;exact h
     ·exact hne j (by omega)
    ·refine Le.of ?_ ?_<;>simp [go_sem,simprocAttr]
   ·have cQ:decide ((q:Int)<(k:Int))=false:=decide_eq_false (by omega)
    repeat' (first|((first|((with_reducible (first|apply oA|apply oB));exact rfl;intro K hK)|(refine hK _ ?_;clear hK K)|((with_reducible (first|apply oG|apply oH));iterate 3 exact rfl)|((with_reducible apply oI);(iterate 2 exact rfl);intro K hK)|(with_reducible (first|apply wI|apply wJ|apply wK)));try simp only [go_sem,simprocAttr,cQ])|(with_reducible (first|apply oC|apply oJ|exact oK|apply wA|apply wB|apply wC hX hC|apply wD hX hC|apply wE hX hC af|apply wF hX hC af|apply wG|apply wH|apply And.intro))|((with_reducible refine oD ?_ ?_);kernel_rfl)|((with_reducible (first|apply oE|apply oF));(iterate 3 exact rfl);all_goals (intro h;first|(exact absurd h (by decide))|((try simp only [go_sem,simprocAttr,cQ] at h);(try with_reducible intro K hK);simp only [go_sem,simprocAttr,cQ])))|((first|((with_reducible apply wL);exact rfl)|((with_reducible apply wM);exact rfl));all_goals (try ((with_reducible intro h);first|(exact absurd h (by decide))|(try simp only [go_sem,simprocAttr,cQ] at h))))|omega|((first|refine aa hX hC hP (cO g hl) rfl rfl rfl (by simp only [go_sem,simprocAttr,cQ]) rfl ?_|refine aa hX hC hP (dz g hm) rfl rfl rfl (by simp only [go_sem,simprocAttr,cQ]) rfl ?_|refine aa hX hC hP (cR g true hl0 hn0) rfl rfl rfl (by simp only [go_sem,simprocAttr,cQ]) rfl ?_);try simp only [go_sem,simprocAttr,cQ])|(intro h))
    refine ⟨k+1,⟨by omega,fun j hj=> ?_⟩, ?_,by omega⟩
    ·by_cases hjk:j=k
     ·subst hjk
      refine decide_eq_false fun h=> ?_
      obtain ⟨i,h1,_,h3⟩:=x8.1 h
      exact hne i (by omega) h3
     ·exact HH j (by omega)
    ·(refine Le.of ?_ ?_<;>simp [go_sem,simprocAttr,cQ])
  ·have ak:decide ((k:Int)<(g.es.length:Int))=false:=decide_eq_false (by omega)
   have DH:¬0≤eZ g:=by
    have:eZ g= -1:=cA 0 fun j hj=>by
     rw [List.length_range] at hj
     rw [ga hj];exact HH j (by omega)
    omega
   repeat' (first|((first|((with_reducible (first|apply oA|apply oB));exact rfl;intro K hK)|(refine hK _ ?_;clear hK K)|((with_reducible (first|apply oG|apply oH));iterate 3 exact rfl)|((with_reducible apply oI);(iterate 2 exact rfl);intro K hK)|(with_reducible (first|apply wI|apply wJ|apply wK)));try simp only [go_sem,simprocAttr,hm,ak])|(with_reducible (first|apply oC|apply oJ|exact oK|apply wA|apply wB|apply wC hX hC|apply wD hX hC|apply wE hX hC af|apply wF hX hC af|apply wG|apply wH|apply And.intro))|((with_reducible refine oD ?_ ?_);kernel_rfl)|((with_reducible (first|apply oE|apply oF));(iterate 3 exact rfl);all_goals (intro h;first|(exact absurd h (by decide))|((try simp only [go_sem,simprocAttr,hm,ak] at h);(try with_reducible intro K hK);simp only [go_sem,simprocAttr,hm,ak])))|((first|((with_reducible apply wL);exact rfl)|((with_reducible apply wM);exact rfl));all_goals (try ((with_reducible intro h);first|(exact absurd h (by decide))|(try simp only [go_sem,simprocAttr,hm,ak] at h))))|omega|((first|refine aa hX hC hP (cO g hl) rfl rfl rfl (by simp only [go_sem,simprocAttr,hm,ak]) rfl ?_|refine aa hX hC hP (dz g hm) rfl rfl rfl (by simp only [go_sem,simprocAttr,hm,ak]) rfl ?_|refine aa hX hC hP (cR g true hl0 hn0) rfl rfl rfl (by simp only [go_sem,simprocAttr,hm,ak]) rfl ?_);try simp only [go_sem,simprocAttr,hm,ak])|(intro h))
   all_goals (
    have hc:fP g=if 0<(lJ g).length then (15,0,lJ g) else if 1<(bD (mI false) g).length then (16,0,(bD (mI false) g).take 2) else (0,0, []):=by
     show gH g (lJ g) (bD (mI false) g)=_
     simp only [gH];rw [if_neg (by simp [hm]),if_neg hlo,if_neg DH]
    first|rw [if_pos (by omega)] at hc|(rw [if_neg (by omega)] at hc;first|rw [if_pos (by omega)] at hc|rw [if_neg (by omega)] at hc)
    rw [hc]<;>first|rfl|simp only [List.map_take])
end Go.Ab
end
section
namespace Go.Ab
def Ord (g:Gr) (out:List Int):Prop:=∀p,p<out.length→∀i,i<g.es.length→hd g i=out.getD p 0→tl g i∈out.take p
theorem lK {l r:List Int} {p:Nat} (h:p<l.length):(l++r).getD p 0=l.getD p 0:=by
 rw [List.getD_eq_getElem?_getD,List.getD_eq_getElem?_getD,List.getElem?_append_left h]
theorem Ord.next {g:Gr} {out:List Int} (h:Ord g out) {x:Nat} (hb:∀i,i<g.es.length→hd g i=x→tl g i∈out):Ord g (out++ [(x:Int)]):=by
 intro p hp i hi hh
 rw [List.length_append,List.length_singleton] at hp
 by_cases gM:p<out.length
 ·rw [lK gM] at hh
  have:=h p gM i hi hh
  rw [List.take_append_of_le_length (by omega)]
  exact this
 ·have hpe:p=out.length:=by omega
  subst hpe
  rw [List.getD_eq_getElem?_getD,List.getElem?_append_right (by omega)] at hh
  simp at hh
  rw [List.take_append_of_le_length (by omega),List.take_of_length_le (by omega)]
  exact hb i hi hh
theorem sR {g:Gr} (hm:aO g=true):∀f out,ew g out→Ord g out→left g out≤f→ew g (tZ g f out)∧Ord g (tZ g f out)∧dF (cw g (tZ g f out)) 0<0
 |f,out,hP,hO,hl=>by
  rcases JX (g:=g) out with hx|⟨x,hx,Bx,hw⟩
  ·rw [x5 (by omega)];exact ⟨hP,hO,by omega⟩
  ·obtain ⟨NJ,_,hb⟩:=hP.next hm Bx hw
   have hn:=uF hP NJ
   cases f with
   |zero=>omega
   |succ f=>
    have:=sR hm f (out++ [(x:Int)]) NJ (hO.next hb) (by omega)
    simp only [tZ,hx]
    rw [if_neg (by omega)]
    exact this
theorem dY {g:Gr} (hm:aO g=true):ew g (aJ g)∧Ord g (aJ g)∧dF (cw g (aJ g)) 0<0:=
 sR hm _ _ (ew.nil g) (fun p hp=>by simp at hp) (by rw [oz];exact Nat.le_refl _)
theorem pQ {g:Gr} (hm:aO g=true) {y:Nat} (hy:y<g.n.toNat):0<wt g (aJ g) y↔(y:Int)∉aJ g:=by
 obtain ⟨_,_,hi⟩:=dY hm
 constructor
 ·intro h hin;simp [wt,hin] at h
 ·intro h
  have h0:wt g (aJ g) y≠0:=by
   intro e
   rcases fZ (f:=fun y:Int=>decide (0=y)) (l:=cw g (aJ g)) 0 with ⟨_,h2⟩|⟨k,h1,_⟩
   ·have:=h2 _ (List.mem_of_getElem? (kz hy))
    rw [e] at this;simp at this
   ·have:dF (cw g (aJ g)) 0=k:=h1
    omega
  have:0≤wt g (aJ g) y:=by simp only [wt,h,if_false];omega
  omega
theorem sS {g:Gr} {l:List Bool} {j y:Nat} (h:y<g.n.toNat):(eH g l j).getD y false=(List.range j).any fun i=>decide (hd g i=(y:Int))&&(l.getD (tl g i).toNat false&&l.getD (hd g i).toNat false):=by
 simp [eH,List.getD_eq_getElem?_getD,List.getElem?_range h]
theorem sV {g:Gr} (hm:aO g=true):∀k y,y<g.n.toNat→(y:Int)∉aJ g→(fq g k).getD y false=true
 |0,y,hy,_=>by simp [fq,lH,List.getD_eq_getElem?_getD,List.getElem?_range hy];omega
 |k+1,y,hy,h=>by
  have hw:=(pQ hm hy).2 h
  simp only [wt,h,if_false] at hw
  obtain ⟨i,hi,hp⟩:=List.countP_pos_iff.1 (Int.natCast_pos.1 hw)
  simp only [Bool.and_eq_true,decide_eq_true_eq,Bool.not_eq_true',decide_eq_false_iff_not] at hp
  have hil:=List.mem_range.1 hi
  obtain ⟨⟨h1,h2⟩,_⟩:=dL hm hil
  have ht:(g.es.getD i (0,0)).1=tl g i:=rfl
  rw [ht] at h1 h2
  have e:((tl g i).toNat:Int)=tl g i:=by omega
  have g1:=sV hm k (tl g i).toNat (by omega) (by rw [e];exact hp.2)
  have g2:=sV hm k y hy h
  show (eH g (fq g k) g.es.length).getD y false=true
  rw [sS hy,List.any_eq_true]
  refine ⟨i,hi, ?_⟩
  rw [hp.1,Int.toNat_natCast,g1,g2];simp
theorem Aq {g:Gr} (hm:aO g=true):∀k p,p<k→p<(aJ g).length→(fq g k).getD ((aJ g).getD p 0).toNat false=false
 |0,p,h,_=>by omega
 |k+1,p,h,hp=>by
  obtain ⟨hP,hO,_⟩:=dY hm
  have hr:=hP.lo _ (iL hp)
  obtain ⟨y,hy⟩:∃y:Nat,(aJ g).getD p 0=y:=⟨((aJ g).getD p 0).toNat,by omega⟩
  have O7:y<g.n.toNat:=by omega
  rw [hy,Int.toNat_natCast]
  show (eH g (fq g k) g.es.length).getD y false=false
  rw [sS O7,List.any_eq_false]
  intro i hi
  have hil:=List.mem_range.1 hi
  simp only [Bool.and_eq_true,decide_eq_true_eq]
  rintro ⟨h1,h2,_⟩
  have ht:=hO p hp i hil (by rw [h1,hy])
  rw [List.mem_iff_getElem?] at ht
  obtain ⟨q,hq⟩:=ht
  rw [List.getElem?_take] at hq
  split at hq
  ·rename_i O8
   have:=Aq hm k q (by omega) (by omega)
   rw [List.getD_eq_getElem?_getD (l:=aJ g),hq] at this
   rw [Option.getD_some,h2] at this
   cases this
  ·cases hq
theorem DL {g:Gr} (hm:aO g=true) {y:Nat} (hy:y<g.n.toNat):(v7 g).getD y false=true↔(y:Int)∉aJ g:=by
 constructor
 ·intro h hin
  obtain ⟨hP,_,_⟩:=dY hm
  obtain ⟨p,hp,e⟩:=List.getElem_of_mem hin
  have hl:=hP.fuel
  have:=Aq hm g.n.toNat p (by omega) hp
  rw [List.getD_eq_getElem?_getD (l:=aJ g),List.getElem?_eq_getElem hp,Option.getD_some,e,Int.toNat_natCast] at this
  have h2:(fq g g.n.toNat).getD y false=true:=h
  rw [this] at h2;cases h2
 ·intro h;exact sV hm _ y hy h
theorem DM {g:Gr} (hm:aO g=true) {y:Nat} (hy:y<g.n.toNat):(v7 g).getD y false=decide (0<(cw g (aJ g)).getD y 0):=by
 rw [lE hy,Bool.eq_iff_iff,DL hm hy,decide_eq_true_eq,pQ hm hy]
theorem start_eq {g:Gr} (hm:aO g=true):(bM (fun n=>decide (0<n)) (cw g (aJ g))= -1∧E6 g=g.n)∨∃a:Nat,a<g.n.toNat∧bM (fun n=>decide (0<n)) (cw g (aJ g))=a∧E6 g=a∧(a:Int)∉aJ g:=by
 have hlf:(v7 g).length=g.n.toNat:=leftK_length
 rcases fZ (f:=fun n:Int=>decide (0<n)) (l:=cw g (aJ g)) 0 with ⟨h1,h2⟩|⟨k,h1,h2,h3,h4⟩
 ·refine .inl ⟨h1, ?_⟩
  have:bM (fun b:Bool=>b) (v7 g)= -1:=cA false fun j hj=>by
   rw [hlf] at hj
   rw [DM hm hj]
   exact h2 _ (by rw [List.getD_eq_getElem?_getD,kz hj];exact List.mem_of_getElem? (kz hj))
  unfold E6;rw [this,if_pos (by omega)]
 ·rw [wts_length] at h2
  refine .inr ⟨k,h2,h1, ?_, ?_⟩
  ·have:bM (fun b:Bool=>b) (v7 g)=k:=dD (d:=false) (by omega) (fun j hj=>by
    rw [DM hm (by omega)];exact h4 j hj) (by rw [DM hm h2];exact h3)
   unfold E6;rw [this,if_neg (by omega)]
  ·rw [← pQ hm h2]
   rw [lE h2] at h3
   exact of_decide_eq_true h3
def Q (g:Gr) (a:Nat) (t:Int):Prop:=∃i,i<g.es.length∧hd g i=(a:Int)∧tl g i=t∧t∉aJ g
theorem bG {g:Gr} (hm:aO g=true) {i:Nat} (hi:i<g.es.length):0≤tl g i∧tl g i<g.n:=(dL hm hi).1
theorem b8 {g:Gr} (hm:aO g=true) {i:Nat} (hi:i<g.es.length):0≤hd g i∧hd g i<g.n:=(dL hm hi).2
theorem BG {g:Gr} (hm:aO g=true) {i:Nat} (hi:i<g.es.length):0<(cw g (aJ g)).getD (tl g i).toNat 0↔tl g i∉aJ g:=by
 have h:=bG hm hi
 have e:((tl g i).toNat:Int)=tl g i:=by omega
 rw [lE (by omega),pQ hm (by omega),e]
theorem qq {g:Gr} (hm:aO g=true):∀(l:List Int) (b:Int),(∀e∈l,∃i:Nat,e=i∧i<g.es.length)→
 (b= -1∨0≤b)→(l.foldl (fm g (cw g (aJ g))) b=b∨∃i:Nat,(i:Int)∈l∧tl g i∉aJ g∧l.foldl (fm g (cw g (aJ g))) b=tl g i)∧(0≤b→l.foldl (fm g (cw g (aJ g))) b≤b)∧
   (∀i:Nat,(i:Int)∈l→tl g i∉aJ g→0≤l.foldl (fm g (cw g (aJ g))) b∧l.foldl (fm g (cw g (aJ g))) b≤tl g i)
 | [],b,_,_=>⟨.inl rfl,fun _=>Int.le_refl _,by simp⟩
 |e::l,b,he,hb=>by
  obtain ⟨i,rfl,hi⟩:=he e List.mem_cons_self
  have htr:=bG hm hi
  have hw:=BG hm hi
  have hstep:fm g (cw g (aJ g)) b (i:Int)=if tl g i∉aJ g∧(b<0∨tl g i<b) then tl g i else b:=by
   simp only [fm,Int.toNat_natCast,hw]
  have hb':fm g (cw g (aJ g)) b (i:Int)= -1∨0≤fm g (cw g (aJ g)) b (i:Int):=by
   rw [hstep];split
   ·exact .inr htr.1
   ·exact hb
  obtain ⟨h1,h2,h3⟩:=qq hm l (fm g (cw g (aJ g)) b (i:Int)) (fun e h=>he e (List.mem_cons_of_mem _ h)) hb'
  simp only [List.foldl_cons]
  generalize hr:l.foldl (fm g (cw g (aJ g))) (fm g (cw g (aJ g)) b (i:Int))=r at h1 h2 h3 ⊢
  refine ⟨?_, ?_, ?_⟩
  ·rcases h1 with h1|⟨j,hj,h4,h5⟩
   ·rw [hstep] at h1
    split at h1
    ·rename_i hc
     exact .inr ⟨i,by simp,hc.1,h1⟩
    ·exact .inl h1
   ·exact .inr ⟨j,by simp [hj],h4,h5⟩
  ·intro h0
   rw [hstep] at h2
   split at h2
   ·rename_i hc;have:=h2 htr.1;omega
   ·exact h2 h0
  ·intro j hj hjn
   rcases List.mem_cons.1 hj with hj|hj
   ·have:j=i:=Int.ofNat.inj hj
    subst this
    rw [hstep] at h1 h2
    split at h1
    ·rename_i hc
     rw [if_pos hc] at h2
     have:=h2 htr.1
     rcases h1 with h1|⟨q,hq,h4,h5⟩
     ·omega
     ·obtain ⟨i',e',hi'⟩:=he q (List.mem_cons_of_mem _ hq)
      have:q=i':=Int.ofNat.inj e'
      subst this
      have:=bG hm hi';omega
    ·rename_i hc
     rw [if_neg hc] at h2
     have II:¬(b<0∨tl g j<b):=fun h=>hc ⟨hjn,h⟩
     have:=h2 (by omega)
     rcases h1 with h1|⟨q,hq,h4,h5⟩
     ·omega
     ·obtain ⟨i',e',hi'⟩:=he q (List.mem_cons_of_mem _ hq)
      have:q=i':=Int.ofNat.inj e'
      subst this
      have:=bG hm hi';omega
   ·exact h3 j hj hjn
theorem sW {g:Gr} (hm:aO g=true) {a:Nat} (h:∃t,Q g a t):Q g a (jd g (cw g (aJ g)) a)∧∀t,Q g a t→jd g (cw g (aJ g)) a≤t:=by
 have hin:∀i,i<g.es.length→hd g i=(a:Int)→(i:Int)∈pO g a:=by
  intro i hi hh
  simp only [pO,eD,List.mem_map,List.mem_filter,List.mem_range,decide_eq_true_eq]
  exact ⟨i,⟨hi,hh⟩,rfl⟩
 obtain ⟨h1,_,h3⟩:=qq hm (pO g a) (-1) DE (.inl rfl)
 have hG:jd g (cw g (aJ g)) a=(pO g a).foldl (fm g (cw g (aJ g))) (-1):=by simp [jd,uJ]
 rw [← hG] at h1 h3
 have hle:∀t,Q g a t→0≤jd g (cw g (aJ g)) a∧jd g (cw g (aJ g)) a≤t:=by
  rintro t ⟨i,h4,h5,rfl,h6⟩
  exact h3 i (hin i h4 h5) h6
 obtain ⟨t,ht⟩:=h
 have h0:=(hle t ht).1
 refine ⟨?_,fun t ht=>(hle t ht).2⟩
 rcases h1 with h1|⟨i,hi,h4,h5⟩
 ·omega
 ·obtain ⟨i',e',hi',hh⟩:=vZ hi
  have:i=i':=Int.ofNat.inj e'
  subst this
  exact ⟨i,hi',hh,h5.symm,by rw [h5];exact h4⟩
theorem sX {g:Gr} (hm:aO g=true) {a:Nat} :∀k,k≤g.es.length→(dX g a k=g.n∨Q g a (dX g a k))∧dX g a k≤g.n∧∀i,i<k→hd g i=(a:Int)→tl g i∉aJ g→dX g a k≤tl g i
 |0,_=>⟨.inl rfl,Int.le_refl _,by simp⟩
 |k+1,hk=>by
  obtain ⟨h1,h2,h3⟩:=sX hm (a:=a) k (by omega)
  have htr:=bG hm (i:=k) (by omega)
  have e:((tl g k).toNat:Int)=tl g k:=by omega
  have hlf:=DL hm (y:=(tl g k).toNat) (by omega)
  rw [e] at hlf
  rw [nF]
  unfold v8
  split
  ·rename_i hc0
   have hc:hd g k=(a:Int)∧tl g k∉aJ g:=⟨hc0.1,hlf.1 hc0.2⟩
   refine ⟨?_,by omega, ?_⟩
   ·by_cases hle:dX g a k≤tl g k
    ·rw [Int.min_eq_left hle];exact h1
    ·rw [Int.min_eq_right (by omega)];exact .inr ⟨k,by omega,hc.1,rfl,hc.2⟩
   ·intro i hi hh hn
    by_cases hik:i=k
    ·subst hik;omega
    ·have:=h3 i (by omega) hh hn;omega
  ·rename_i hc
   refine ⟨h1,h2, ?_⟩
   intro i hi hh hn
   by_cases hik:i=k
   ·subst hik;exact absurd ⟨hh,hlf.2 hn⟩ hc
   ·exact h3 i (by omega) hh hn
theorem back_eq {g:Gr} (hm:aO g=true) {a:Nat} (h:∃t,Q g a t):jd g (cw g (aJ g)) a=dX g a g.es.length∧Q g a (dX g a g.es.length):=by
 obtain ⟨h1,h2⟩:=sW hm h
 obtain ⟨h3,h4,h5⟩:=sX hm (a:=a) g.es.length (Nat.le_refl _)
 have hb:dX g a g.es.length≤jd g (cw g (aJ g)) a:=by
  obtain ⟨i,h6,h7,h8,h9⟩:=h1
  rw [← h8] at h9 ⊢
  exact h5 i h6 h7 h9
 have hlt:jd g (cw g (aJ g)) a<g.n:=by
  obtain ⟨i,h6,h7,h8,h9⟩:=h1
  rw [← h8];exact (bG hm h6).2
 rcases h3 with h3|h3
 ·omega
 ·exact ⟨by have:=h2 _ h3;omega,h3⟩
theorem HJ {g:Gr} (hm:aO g=true) {a:Nat} (ha:a<g.n.toNat) (h:(a:Int)∉aJ g):∃t,Q g a t:=by
 have hw:=(pQ hm ha).2 h
 simp only [wt,h,if_false] at hw
 obtain ⟨i,hi,hp⟩:=List.countP_pos_iff.1 (Int.natCast_pos.1 hw)
 simp only [Bool.and_eq_true,decide_eq_true_eq,Bool.not_eq_true',decide_eq_false_iff_not] at hp
 exact ⟨tl g i,i,List.mem_range.1 hi,hp.1,rfl,hp.2⟩
theorem DN {g:Gr} (hm:aO g=true):∀(f f':Nat) (way:List Int) (a:Nat),way.Nodup→a<g.n.toNat→(a:Int)∉aJ g→left g way≤f→left g way≤f'→
 kB g (cw g (aJ g)) f way a=nE g f' way a∧(0≤(nE g f' way a).2∧(nE g f' way a).2∈(nE g f' way a).1∧(nE g f' way a).1.Nodup)
 |f,f',way,a,hd,ha,hn,h1,h2=>by
  by_cases hmem:(a:Int)∈way
  ·rw [jO (.inr hmem),x7 hmem]
   exact ⟨rfl,by simp only;omega,hmem,hd⟩
  ·have hla:=iH ha hmem
   cases f with
   |zero=>omega
   |succ f=>
    cases f' with
    |zero=>omega
    |succ f'=>
     obtain ⟨hb,hq⟩:=back_eq hm (HJ hm ha hn)
     obtain ⟨i,hi,_,ht,JZ⟩:=hq
     have htr:=bG hm hi
     rw [ht] at htr
     obtain ⟨b,HK⟩:∃b:Nat,dX g a g.es.length=b:=⟨(dX g a g.es.length).toNat,by omega⟩
     rw [HK] at hb JZ htr
     have hd':(way++ [(a:Int)]).Nodup:=by
      rw [List.nodup_append]
      refine ⟨hd,by simp, ?_⟩
      intro x hx y hy e
      simp at hy
      rw [← hy, ← e] at hmem;exact hmem hx
     have ih:=DN hm f f' (way++ [(a:Int)]) b hd' (by omega) JZ (by omega) (by omega)
     have e1:kB g (cw g (aJ g)) (f+1) way a=kB g (cw g (aJ g)) f (way++ [(a:Int)]) b:=by
      simp only [kB];rw [if_neg (by intro h;rcases h with h|h;omega;exact hmem h),hb]
     have e2:nE g (f'+1) way a=nE g f' (way++ [(a:Int)]) b:=by
      simp only [nE];rw [if_neg hmem,HK]
     rw [e1,e2];exact ih
theorem wg {g:Gr} {way:List Int} :left g way≤g.n.toNat:=by
 unfold left
 have:=List.countP_le_length (p:=fun y:Nat=> !decide ((y:Int)∈way)) (l:=List.range g.n.toNat)
 simpa using this
theorem nG {l:List Int} (h:l.Nodup) {i j:Nat} (hi:i<l.length) (hj:j<l.length) (e:l.getD i 0=l.getD j 0):i=j:=by
 rw [List.getD_eq_getElem?_getD,List.getD_eq_getElem?_getD,List.getElem?_eq_getElem hi,List.getElem?_eq_getElem hj] at e
 exact (List.getElem_inj h).1 e
theorem DO {l:List Int} {i:Nat} (hi:i<l.length):l.reverse.getD i 0=l.getD (l.length - 1 - i) 0:=by
 rw [List.getD_eq_getElem?_getD,List.getD_eq_getElem?_getD,List.getElem?_reverse hi]
theorem FR {l:List Int} (hd:l.Nodup) (h0:0<l.length):kO l.reverse=uM l:=by
 obtain ⟨m,w5,hm2,O9⟩:=dG (iI h0)
 have K2:0<l.reverse.length:=by simpa using h0
 obtain ⟨k,A6,hk2,JV⟩:=dG (iI K2)
 have hmin:ia l.reverse=ia l:=by
  have h1:=we (List.mem_reverse.2 (iI h0))
  have h2:=we (List.mem_reverse.1 (iI K2))
  omega
 rw [List.length_reverse] at hk2
 have hk:l.length - 1 - k=m:=nG hd (by omega) hm2 (by rw [← DO hk2,JV,O9,hmin])
 have e1:kO l.reverse=l.reverse.drop k++l.reverse.take k:=by
  simp only [kO,A6,Int.toNat_natCast]
 have e2:uM l=qE l m l.length:=by simp only [uM,w5,Int.toNat_natCast]
 rw [e1,e2]
 refine List.ext_getElem? fun i=> ?_
 by_cases hi:i<l.length
 ·have hr:(qE l m l.length)[i]? =some (l.getD ((m+l.length - i) % l.length) 0):=by
   simp [qE,List.getElem?_range hi]
  rw [hr]
  by_cases hik:i<l.length - k
  ·rw [List.getElem?_append_left (by simp;omega),List.getElem?_drop,List.getElem?_reverse (by omega)]
   have:(m+l.length - i) % l.length=m - i:=by
    rw [show m+l.length - i=(m - i)+l.length from by omega,Nat.add_mod_right,Nat.mod_eq_of_lt (by omega)]
   rw [this,show l.length - 1 - (k+i)=m - i from by omega,List.getD_eq_getElem?_getD,List.getElem?_eq_getElem (by omega)];rfl
  ·rw [List.getElem?_append_right (by simp;omega),List.length_drop,List.length_reverse,List.getElem?_take,if_pos (by omega),List.getElem?_reverse (by omega)]
   have:(m+l.length - i) % l.length=m+l.length - i:=Nat.mod_eq_of_lt (by omega)
   rw [this,show l.length - 1 - (i - (l.length - k))=m+l.length - i from by omega,List.getD_eq_getElem?_getD,List.getElem?_eq_getElem (by omega)];rfl
 ·rw [List.getElem?_eq_none (by simp;omega),List.getElem?_eq_none (by simp [qE];omega)]
theorem HL {g:Gr} (hm:aO g=true):jN g=lJ g:=by
 have hn:=aT hm
 rcases start_eq hm with ⟨h1,h2⟩|⟨a,ha,h1,h2,h3⟩
 ·have:jM g=([], -1):=by
   unfold jM;rw [h1];exact jO (.inl (by omega)) _
  simp only [jN,lJ,this]
  rw [if_pos (by omega),if_pos h2]
 ·obtain ⟨he,h4,h5,h6⟩:=DN hm g.n.toNat (g.n.toNat+1) [] a (by simp) ha h3 wg (Nat.le_succ_of_le wg)
  have hw:jM g=oL g:=by
   unfold jM oL;rw [h1,h2];exact he
  have hr:nE g (g.n.toNat+1) [] a=oL g:=by unfold oL;rw [h2]
  rw [hr] at h4 h5 h6
  simp only [jN,lJ,hw]
  rw [if_neg (by omega),if_neg (by omega)]
  obtain ⟨k,A6,hk2,_⟩:=dG h5
  rw [A6,Int.toNat_natCast]
  exact FR (List.Pairwise.drop h6) (by simp;omega)
theorem HM (g:Gr):bJ g=fP g:=by
 unfold bJ fP
 cases hm:aO g with
 |false=>simp [gH,hm]
 |true=>rw [HL hm]
end Go.Ab
end
section
namespace Go.Ab
end Go.Ab
end
section
namespace Go.Ab
open Go.Proofs
attribute [local congr] ACall.congr
set_option maxRecDepth 10000
def g0:Gr:=⟨3, [(0,1),(1,2),(2,1)]⟩
end Go.Ab
end
section
namespace Go.Ab
open Go.Proofs
attribute [local congr] ACall.congr
set_option maxRecDepth 10000
def oM (g:Gr):Bool:=decide (g.n≤((aJ g).length:Int))
def bK (g:Gr):List Int:=if oM g then aJ g else []
theorem zB (g:Gr) (hm:aO g=true):Spec Tryz.prog 27 (Args [.d (vw g)]) [] (.tup [.d (sI (bK g)),eB (oM g)]) []:=by
 (refine Spec.intro (C:=T.cfg [] []) (rs:= [.t 2, .t 3]) (T.aj _ _) Tryz.func27 rfl rfl Tryz.ntmps27 Tryz.results27 (by simp [AObj.isNest]) (by simp [AObj.isNest]) (by kernel_rfl) ?_;intro X hX hP hC aL aM vals hA;refine ⟨_,by simp,hA, ?_⟩;have af:X.P.follows .mixedOrders=true:=(by rw [hP];exact T.mixed);clear aL aM)
 cases hok:oM g with
 |true=>
  have hlt:decide (((aJ g).length:Int)<g.n)=false:=decide_eq_false (by have:=of_decide_eq_true hok;omega)
  repeat' (first|((first|((with_reducible (first|apply oA|apply oB));exact rfl;intro K hK)|(refine hK _ ?_;clear hK K)|((with_reducible (first|apply oG|apply oH));iterate 3 exact rfl)|((with_reducible apply oI);(iterate 2 exact rfl);intro K hK)|(with_reducible (first|apply wI|apply wJ|apply wK)));try simp only [go_sem,simprocAttr,hlt])|(with_reducible (first|apply oC|apply oJ|exact oK|apply wA|apply wB|apply wC hX hC|apply wD hX hC|apply wE hX hC af|apply wF hX hC af|apply wG|apply wH|apply And.intro))|((with_reducible refine oD ?_ ?_);kernel_rfl)|((with_reducible (first|apply oE|apply oF));(iterate 3 exact rfl);all_goals (intro h;first|(exact absurd h (by decide))|((try simp only [go_sem,simprocAttr,hlt] at h);(try with_reducible intro K hK);simp only [go_sem,simprocAttr,hlt])))|((first|((with_reducible apply wL);exact rfl)|((with_reducible apply wM);exact rfl));all_goals (try ((with_reducible intro h);first|(exact absurd h (by decide))|(try simp only [go_sem,simprocAttr,hlt] at h))))|omega|((first|refine aa hX hC hP (gG g hm) rfl rfl rfl (by simp only [go_sem,simprocAttr,hlt]) rfl ?_);try simp only [go_sem,simprocAttr,hlt])|(intro h))
  simp [bK,hok]
 |false=>
  have hlt:decide (((aJ g).length:Int)<g.n)=true:=decide_eq_true (by have:=of_decide_eq_false hok;omega)
  repeat' (first|((first|((with_reducible (first|apply oA|apply oB));exact rfl;intro K hK)|(refine hK _ ?_;clear hK K)|((with_reducible (first|apply oG|apply oH));iterate 3 exact rfl)|((with_reducible apply oI);(iterate 2 exact rfl);intro K hK)|(with_reducible (first|apply wI|apply wJ|apply wK)));try simp only [go_sem,simprocAttr,hlt])|(with_reducible (first|apply oC|apply oJ|exact oK|apply wA|apply wB|apply wC hX hC|apply wD hX hC|apply wE hX hC af|apply wF hX hC af|apply wG|apply wH|apply And.intro))|((with_reducible refine oD ?_ ?_);kernel_rfl)|((with_reducible (first|apply oE|apply oF));(iterate 3 exact rfl);all_goals (intro h;first|(exact absurd h (by decide))|((try simp only [go_sem,simprocAttr,hlt] at h);(try with_reducible intro K hK);simp only [go_sem,simprocAttr,hlt])))|((first|((with_reducible apply wL);exact rfl)|((with_reducible apply wM);exact rfl));all_goals (try ((with_reducible intro h);first|(exact absurd h (by decide))|(try simp only [go_sem,simprocAttr,hlt] at h))))|omega|((first|refine aa hX hC hP (gG g hm) rfl rfl rfl (by simp only [go_sem,simprocAttr,hlt]) rfl ?_);try simp only [go_sem,simprocAttr,hlt])|(intro h))
  simp [bK,hok]
def jS (l:List Int) (n:Int):Bool:=decide ((l.length:Int)=n)&&(List.range n.toNat).all fun x:Nat=>decide ((x:Int)∈l)
end Go.Ab
end
section
namespace Go.Ab
open Go.Proofs
attribute [local congr] ACall.congr
set_option maxRecDepth 10000
theorem count_le:∀(xs l:List Int),xs.Nodup→(∀x∈xs,x∈l)→xs.length≤l.countP (fun y=>decide (y∈xs))
 | [],_,_,_=>Nat.zero_le _
 |a::r,l,hd,h=>by
  obtain ⟨h1,h2⟩:=List.nodup_cons.1 hd
  have ih:=count_le r l h2 fun x hx=>h x (List.mem_cons_of_mem _ hx)
  have hp:=kA (p:=fun y=>decide (y∈a::r)) (q:=fun y=>decide (y∈r)) (r:=fun y=>decide (y=a)) (l:=l) (fun y _=>by
   by_cases hy:y=a
   ·subst hy;simp [h1]
   ·simp [hy])
  have ha:0<l.countP (fun y=>decide (y=a)):=List.countP_pos_iff.2 ⟨a,h a List.mem_cons_self,by simp⟩
  rw [hp,List.length_cons];omega
def dZ (n:Nat):List Int:=(List.range n).map Int.ofNat
theorem cB {n:Nat} {x:Int} :x∈dZ n↔0≤x∧x<n:=by
 simp only [dZ,List.mem_map,List.mem_range]
 constructor
 ·rintro ⟨a,h,rfl⟩;simp;omega
 ·intro h;exact ⟨x.toNat,by omega,by simp;omega⟩
theorem e8 {n:Nat} :(dZ n).Nodup:=by
 unfold dZ
 exact List.Pairwise.map _ (fun a b h e=>h (Int.ofNat.inj e)) List.nodup_range
theorem bQ {l:List Int} {n:Int} :jS l n=true↔(l.length:Int)=n∧∀x∈dZ n.toNat,x∈l:=by
 simp only [jS,Bool.and_eq_true,decide_eq_true_eq,List.all_eq_true,List.mem_range]
 constructor
 ·rintro ⟨h1,h2⟩
  refine ⟨h1,fun x hx=> ?_⟩
  obtain ⟨a,b⟩:=cB.1 hx
  have:=h2 x.toNat (by omega)
  rwa [show ((x.toNat:Nat):Int)=x from by omega] at this
 ·rintro ⟨h1,h2⟩
  exact ⟨h1,fun x hx=>h2 _ (cB.2 (by omega))⟩
theorem lM {l:List Int} {n:Int} (h:jS l n=true):∀x∈l,0≤x∧x<n:=by
 obtain ⟨h1,h2⟩:=bQ.1 h
 have hc:=count_le (dZ n.toNat) l e8 h2
 have hlen:(dZ n.toNat).length=n.toNat:=by simp [dZ]
 have he:l.countP (fun y=>decide (y∈dZ n.toNat))=l.length:=by
  have:=List.countP_le_length (p:=fun y=>decide (y∈dZ n.toNat)) (l:=l)
  omega
 intro x hx
 have:=List.countP_eq_length.1 he x hx
 have:=cB.1 (of_decide_eq_true this)
 omega
def x9 (n:Nat) (l:List Int):Nat→List Int
 |0=>List.replicate n 0
 |k+1=>(x9 n l k).set (l.getD k 0).toNat k
theorem atK_length {n:Nat} {l:List Int} :∀ {k:Nat},(x9 n l k).length=n
 |0=>by simp [x9]
 |k+1=>by simp [x9,atK_length (k:=k)]
def DP (g:Gr) (l:List Int) (j:Nat):Bool:=(List.range j).all fun i=>decide ((x9 g.n.toNat l l.length).getD (tl g i).toNat 0<(x9 g.n.toNat l l.length).getD (hd g i).toNat 0)
def wh (g:Gr) (l:List Int):Bool:=jS l g.n&&DP g l g.es.length
attribute [go_sem] atK_length
end Go.Ab
end
section
namespace Go.Ab
def QA (g:Gr) (out:List Int):Prop:=∀p,p<out.length→out.getD p 0=dF (cw g (out.take p)) 0∧0≤out.getD p 0
theorem oN {g:Gr} (hm:aO g=true) (h:oM g=true):jS (aJ g) g.n=true:=by
 obtain ⟨hP,_,_⟩:=dY hm
 have hn:=aT hm
 have hf:=hP.fuel
 have hok:=of_decide_eq_true h
 refine bQ.2 ⟨by omega,fun x hx=> ?_⟩
 obtain ⟨h1,h2⟩:=cB.1 hx
 have h0:(List.range g.n.toNat).countP (fun y:Nat=> !decide ((y:Int)∈aJ g))=0:=by omega
 have:=List.countP_eq_zero.1 h0 x.toNat (List.mem_range.2 (by omega))
 rw [show ((x.toNat:Nat):Int)=x from by omega] at this
 simpa using this
theorem Ar {g:Gr} (hm:aO g=true) (h:oM g=false):∃y:Nat,y<g.n.toNat∧(y:Int)∉aJ g:=by
 obtain ⟨hP,_,_⟩:=dY hm
 have hn:=aT hm
 have hf:=hP.fuel
 have hok:=of_decide_eq_false h
 have h0:0<(List.range g.n.toNat).countP (fun y:Nat=> !decide ((y:Int)∈aJ g)):=by omega
 obtain ⟨y,hy,hp⟩:=List.countP_pos_iff.1 h0
 exact ⟨y,List.mem_range.1 hy,by simpa using hp⟩
theorem DQ {g:Gr} {l:List Int} (h:wh g l=true) {i:Nat} (hi:i<g.es.length):(x9 g.n.toNat l l.length).getD (tl g i).toNat 0<(x9 g.n.toNat l l.length).getD (hd g i).toNat 0:=by
 simp only [wh,Bool.and_eq_true] at h
 have:=List.all_eq_true.1 h.2 i (List.mem_range.2 hi)
 exact of_decide_eq_true this
theorem sY {n:Nat} {l:List Int} :∀ {k:Nat} {y:Nat},0≤(x9 n l k).getD y 0
 |0,y=>by
  simp only [x9,List.getD_eq_getElem?_getD,List.getElem?_replicate]
  split<;>simp
 |k+1,y=>by
  have ih:=sY (n:=n) (l:=l) (k:=k) (y:=y)
  simp only [x9,List.getD_eq_getElem?_getD,List.getElem?_set] at ih ⊢
  split
  ·split<;>simp
  ·exact ih
theorem wj {l:List Int} {i j:Nat} (hij:i<j) (hj:j<l.length) (e:l.getD i 0=l.getD j 0):∀x∈l,x∈l.eraseIdx i:=by
 intro x hx
 obtain ⟨k,hk,rfl⟩:=List.getElem_of_mem hx
 rw [List.mem_iff_getElem?]
 rcases Nat.lt_trichotomy k i with h|h|h
 ·exact ⟨k,by rw [List.getElem?_eraseIdx,if_pos h,List.getElem?_eq_getElem hk]⟩
 ·subst h
  refine ⟨j - 1, ?_⟩
  rw [List.getElem?_eraseIdx,if_neg (by omega),show j - 1+1=j from by omega,List.getElem?_eq_getElem hj]
  rw [List.getD_eq_getElem?_getD,List.getD_eq_getElem?_getD,List.getElem?_eq_getElem hk,List.getElem?_eq_getElem hj] at e
  exact congrArg some e.symm
 ·exact ⟨k - 1,by rw [List.getElem?_eraseIdx,if_neg (by omega),show k - 1+1=k from by omega,List.getElem?_eq_getElem hk]⟩
theorem iM {l:List Int} {n:Int} (h:jS l n=true) {i j:Nat} (hi:i<l.length) (hj:j<l.length) (e:l.getD i 0=l.getD j 0):i=j:=by
 obtain ⟨h1,h2⟩:=bQ.1 h
 have key:∀i j,i<j→j<l.length→l.getD i 0=l.getD j 0→False:=by
  intro i j hij hj e
  have hc:=count_le (dZ n.toNat) (l.eraseIdx i) e8 fun x hx=>wj hij hj e x (h2 x hx)
  have hlen:(dZ n.toNat).length=n.toNat:=by simp [dZ]
  have hle:=List.countP_le_length (p:=fun y=>decide (y∈dZ n.toNat)) (l:=l.eraseIdx i)
  rw [List.length_eraseIdx_of_lt (by omega)] at hle
  omega
 rcases Nat.lt_trichotomy i j with h|h|h
 ·exact (key i j h hj e).elim
 ·exact h
 ·exact (key j i h hi e.symm).elim
theorem wk {l:List Int} {n:Int} (h:jS l n=true) {p:Nat} :∀ {k:Nat},p<k→k≤l.length→(x9 n.toNat l k).getD (l.getD p 0).toNat 0=p
 |0,hp,_=>by omega
 |k+1,hp,hk=>by
  have hlo:=lM h
  have hp1:=hlo _ (iL (l:=l) (m:=p) (by omega))
  have A6:=hlo _ (iL (l:=l) (m:=k) (by omega))
  simp only [x9,List.getD_eq_getElem?_getD (l:=(x9 n.toNat l k).set _ _),List.getElem?_set,atK_length]
  by_cases hpk:p=k
  ·subst hpk
   rw [if_pos rfl,if_pos (by omega)];rfl
  ·have hne:¬(l.getD k 0).toNat=(l.getD p 0).toNat:=fun e=>hpk (iM h (i:=p) (j:=k) (by omega) (by omega) (by omega))
   rw [if_neg hne, ← List.getD_eq_getElem?_getD]
   exact wk h (by omega) (by omega)
theorem BH {g:Gr} (hm:aO g=true) (h:oM g=true):wh g (aJ g)=true:=by
 have he:=oN hm h
 obtain ⟨hP,hO,_⟩:=dY hm
 have hall:=(bQ.1 he).2
 simp only [wh,he,Bool.true_and,DP,List.all_eq_true,List.mem_range,decide_eq_true_eq]
 intro i hi
 have hh:=b8 hm hi
 obtain ⟨p,hp,e⟩:=List.getElem_of_mem (hall (hd g i) (cB.2 (by omega)))
 have e':(aJ g).getD p 0=hd g i:=by rw [List.getD_eq_getElem?_getD,List.getElem?_eq_getElem hp];exact e
 have ht:=hO p hp i hi e'.symm
 rw [List.mem_iff_getElem?] at ht
 obtain ⟨q,hq⟩:=ht
 rw [List.getElem?_take] at hq
 split at hq
 ·rename_i O8
  have e2:(aJ g).getD q 0=tl g i:=by rw [List.getD_eq_getElem?_getD,hq];rfl
  rw [← e', ← e2,wk he hp (Nat.le_refl _),wk he (by omega) (Nat.le_refl _)]
  omega
 ·cases hq
end Go.Ab
end
section
namespace Go.Ab
open Go.Proofs
attribute [local congr] ACall.congr
set_option maxRecDepth 10000
end Go.Ab
end
section
namespace Go.Ab
open Go.Proofs
attribute [local congr] ACall.congr
set_option maxRecDepth 10000
def gz:Gr:=⟨0, []⟩
def vz:D:= .pt [.sc (.int .i64 0), .sl 2 [], .sl 1 [], .sl 1 []]
def bk (f:Edge→Int) (g:Gr) (x:Int):List Int:=if 0≤x∧x<g.n then aD f g.es g.es.length x else []
theorem sZ (f:Edge→Int) (g:Gr) (hm:aO g=true) (x:Int):Spec Tryz.prog 105 (Args [.d (vw g), .d (.sl 1 (E5 f g)),eN x]) [] (.d (sI (bk f g x))) []:=by
 rw [ag]
 have hn:=aT hm
 have hl':(aD f g.es g.es.length x).length≤1000000:=by have:=dH (f:=f) (es:=g.es) (k:=g.es.length) (x:=x);omega
 (refine Spec.intro (C:=T.cfg [] []) (rs:= [.t 6]) (T.aj _ _) Tryz.func105 rfl rfl Tryz.ntmps105 Tryz.results105 (by simp [AObj.isNest]) (by simp [AObj.isNest]) (by kernel_rfl) ?_;intro X hX hP hC aL aM vals hA;refine ⟨_,by simp,hA, ?_⟩;have af:X.P.follows .mixedOrders=true:=(by rw [hP];exact T.mixed);clear aL aM)
 by_cases hx:0≤x∧x<g.n
 ·have hv:=lG (f:=f) (g:=g) (x:=x.toNat) (by omega)
  have he:eD f g.es g.es.length x.toNat=aD f g.es g.es.length x:=by rw [jR,show ((x.toNat:Nat):Int)=x from by omega]
  rw [he] at hv
  have au:decide (x<0)=false:=decide_eq_false (by omega)
  have ak:decide (g.n≤x)=false:=decide_eq_false (by omega)
  have ht:bk f g x=aD f g.es g.es.length x:=if_pos hx
  repeat' (first|((first|((with_reducible (first|apply oA|apply oB));exact rfl;intro K hK)|(refine hK _ ?_;clear hK K)|((with_reducible (first|apply oG|apply oH));iterate 3 exact rfl)|((with_reducible apply oI);(iterate 2 exact rfl);intro K hK)|(with_reducible (first|apply wI|apply wJ|apply wK)));try simp only [go_sem,simprocAttr,hv,au,ak])|(with_reducible (first|apply oC|apply oJ|exact oK|apply wA|apply wB|apply wC hX hC|apply wD hX hC|apply wE hX hC af|apply wF hX hC af|apply wG|apply wH|apply And.intro))|((with_reducible refine oD ?_ ?_);kernel_rfl)|((with_reducible (first|apply oE|apply oF));(iterate 3 exact rfl);all_goals (intro h;first|(exact absurd h (by decide))|((try simp only [go_sem,simprocAttr,hv,au,ak] at h);(try with_reducible intro K hK);simp only [go_sem,simprocAttr,hv,au,ak])))|((first|((with_reducible apply wL);exact rfl)|((with_reducible apply wM);exact rfl));all_goals (try ((with_reducible intro h);first|(exact absurd h (by decide))|(try simp only [go_sem,simprocAttr,hv,au,ak] at h))))|omega|((first|refine aa hX hC hP (lD (aD f g.es g.es.length x) hl') rfl rfl rfl (by simp only [go_sem,simprocAttr,hv,au,ak]) rfl ?_);try simp only [go_sem,simprocAttr,hv,au,ak])|(intro h))
  simp [ht]
 ·have ht:bk f g x= []:=if_neg hx
  repeat' (first|((first|((with_reducible (first|apply oA|apply oB));exact rfl;intro K hK)|(refine hK _ ?_;clear hK K)|((with_reducible (first|apply oG|apply oH));iterate 3 exact rfl)|((with_reducible apply oI);(iterate 2 exact rfl);intro K hK)|(with_reducible (first|apply wI|apply wJ|apply wK)));try simp only [go_sem,simprocAttr,ht])|(with_reducible (first|apply oC|apply oJ|exact oK|apply wA|apply wB|apply wC hX hC|apply wD hX hC|apply wE hX hC af|apply wF hX hC af|apply wG|apply wH|apply And.intro))|((with_reducible refine oD ?_ ?_);kernel_rfl)|((with_reducible (first|apply oE|apply oF));(iterate 3 exact rfl);all_goals (intro h;first|(exact absurd h (by decide))|((try simp only [go_sem,simprocAttr,ht] at h);(try with_reducible intro K hK);simp only [go_sem,simprocAttr,ht])))|((first|((with_reducible apply wL);exact rfl)|((with_reducible apply wM);exact rfl));all_goals (try ((with_reducible intro h);first|(exact absurd h (by decide))|(try simp only [go_sem,simprocAttr,ht] at h))))|omega|((first|refine aa hX hC hP (lD (aD f g.es g.es.length x) hl') rfl rfl rfl (by simp only [go_sem,simprocAttr,ht]) rfl ?_);try simp only [go_sem,simprocAttr,ht])|(intro h))
theorem iA (g:Gr) (hm:aO g=true) (x:Int):Spec Tryz.prog 78 (Args [.d (vw g),eN x]) [] (.d (sI (bk (·.1) g x))) []:=by
 (refine Spec.intro (C:=T.cfg [] []) (rs:= [.t 4]) (T.aj _ _) Tryz.func78 rfl rfl Tryz.ntmps78 Tryz.results78 (by simp [AObj.isNest]) (by simp [AObj.isNest]) (by kernel_rfl) ?_;intro X hX hP hC aL aM vals hA;refine ⟨_,by simp,hA, ?_⟩;have af:X.P.follows .mixedOrders=true:=(by rw [hP];exact T.mixed);clear aL aM)
 repeat' (first|((first|((with_reducible (first|apply oA|apply oB));exact rfl;intro K hK)|(refine hK _ ?_;clear hK K)|((with_reducible (first|apply oG|apply oH));iterate 3 exact rfl)|((with_reducible apply oI);(iterate 2 exact rfl);intro K hK)|(with_reducible (first|apply wI|apply wJ|apply wK)));try simp only [go_sem,simprocAttr,ag])|(with_reducible (first|apply oC|apply oJ|exact oK|apply wA|apply wB|apply wC hX hC|apply wD hX hC|apply wE hX hC af|apply wF hX hC af|apply wG|apply wH|apply And.intro))|((with_reducible refine oD ?_ ?_);kernel_rfl)|((with_reducible (first|apply oE|apply oF));(iterate 3 exact rfl);all_goals (intro h;first|(exact absurd h (by decide))|((try simp only [go_sem,simprocAttr,ag] at h);(try with_reducible intro K hK);simp only [go_sem,simprocAttr,ag])))|((first|((with_reducible apply wL);exact rfl)|((with_reducible apply wM);exact rfl));all_goals (try ((with_reducible intro h);first|(exact absurd h (by decide))|(try simp only [go_sem,simprocAttr,ag] at h))))|omega|((first|refine aa hX hC hP (sZ (·.1) g hm x) rfl rfl rfl (by simp only [go_sem,simprocAttr,ag]) rfl ?_);try simp only [go_sem,simprocAttr,ag])|(intro h))
theorem iN (g:Gr) (hm:aO g=true) (x:Int):Spec Tryz.prog 98 (Args [.d (vw g),eN x]) [] (.d (sI (bk (·.2) g x))) []:=by
 (refine Spec.intro (C:=T.cfg [] []) (rs:= [.t 4]) (T.aj _ _) Tryz.func98 rfl rfl Tryz.ntmps98 Tryz.results98 (by simp [AObj.isNest]) (by simp [AObj.isNest]) (by kernel_rfl) ?_;intro X hX hP hC aL aM vals hA;refine ⟨_,by simp,hA, ?_⟩;have af:X.P.follows .mixedOrders=true:=(by rw [hP];exact T.mixed);clear aL aM)
 repeat' (first|((first|((with_reducible (first|apply oA|apply oB));exact rfl;intro K hK)|(refine hK _ ?_;clear hK K)|((with_reducible (first|apply oG|apply oH));iterate 3 exact rfl)|((with_reducible apply oI);(iterate 2 exact rfl);intro K hK)|(with_reducible (first|apply wI|apply wJ|apply wK)));try simp only [go_sem,simprocAttr,ag])|(with_reducible (first|apply oC|apply oJ|exact oK|apply wA|apply wB|apply wC hX hC|apply wD hX hC|apply wE hX hC af|apply wF hX hC af|apply wG|apply wH|apply And.intro))|((with_reducible refine oD ?_ ?_);kernel_rfl)|((with_reducible (first|apply oE|apply oF));(iterate 3 exact rfl);all_goals (intro h;first|(exact absurd h (by decide))|((try simp only [go_sem,simprocAttr,ag] at h);(try with_reducible intro K hK);simp only [go_sem,simprocAttr,ag])))|((first|((with_reducible apply wL);exact rfl)|((with_reducible apply wM);exact rfl));all_goals (try ((with_reducible intro h);first|(exact absurd h (by decide))|(try simp only [go_sem,simprocAttr,ag] at h))))|omega|((first|refine aa hX hC hP (sZ (·.2) g hm x) rfl rfl rfl (by simp only [go_sem,simprocAttr,ag]) rfl ?_);try simp only [go_sem,simprocAttr,ag])|(intro h))
end Go.Ab
end
section
namespace Go.Ab
open Go.Proofs
attribute [local congr] ACall.congr
set_option maxRecDepth 10000
abbrev It:=Int × Int × Int
def rT (t:It):List D:= [.sc (.int .i64 t.1), .sc (.int .i64 t.2.1), .sc (.int .i64 t.2.2)]
def eT (t:It):AV:= .agg [.d (.sc (.int .i64 t.1)), .d (.sc (.int .i64 t.2.1)), .d (.sc (.int .i64 t.2.2))]
def sT (ts:List It):D:= .sl 3 (ts.map rT)
theorem getD_rT (ps:List It) (i:Nat):(ps.map rT).getD i [.sc (.int .i64 0), .sc (.int .i64 0), .sc (.int .i64 0)]=rT (ps.getD i (0,0,0)):=by
 simp only [List.getD_eq_getElem?_getD,List.getElem?_map]
 cases ps[i]? <;>rfl
theorem rT_eq (t:It):rT t= [.sc (.int .i64 t.1), .sc (.int .i64 t.2.1), .sc (.int .i64 t.2.2)]:=rfl
attribute [go_sem] getD_rT rT_eq eT sT
theorem uN {l:List Int} :∀r∈l.map rI,∀x∈r,∃v,x=D.sc v:=by
 intro r hr x hx
 obtain ⟨y,_,rfl⟩:=List.mem_map.1 hr
 simp only [rI,List.mem_singleton] at hx
 exact ⟨_,hx⟩
theorem uO {l:List It} :∀r∈l.map rT,∀x∈r,∃v,x=D.sc v:=by
 intro r hr x hx
 obtain ⟨y,_,rfl⟩:=List.mem_map.1 hr
 simp only [rT,List.mem_cons,List.not_mem_nil,or_false] at hx
 rcases hx with h|h|h<;>exact ⟨_,h⟩
theorem aW {α:Type} {l:List α} {m:Nat} {d:α} (h:m<l.length):l.getD m d∈l:=by
 rw [List.getD_eq_getElem?_getD,List.getElem?_eq_getElem h];exact List.getElem_mem h
theorem qs (ps:List It) (hl:ps.length≤1000000):
 Spec Tryz.prog 116 (Args [.d (sT ps)]) [] (.ref 10000) [(10000, .tip 96 3 (ps.map rT))]:=by
 (refine Spec.dK (C:=T.cfg [] []) (rs:= [.t 2]) [(10000,7)] (T.aj _ _) Tryz.func116 rfl rfl Tryz.ntmps116 Tryz.results116 (by simp [AObj.isNest]) (by simp [AObj.isNest]) (by first|(simp [look];done)|(simp [asN];done)|(intro l hl;simp only [asN];repeat (rw [if_neg (fun e=>by subst e;simp [look] at hl)]))) (by first|(simp [look];done)|(simp [asN];done)|(intro l hl;simp only [asN];repeat (rw [if_neg (fun e=>by subst e;simp [look] at hl)]))) (by kernel_rfl) ?_;intro X hX hP hC aL aM vals hA;refine ⟨_,by simp,hA, ?_⟩;have af:X.P.follows .mixedOrders=true:=(by rw [hP];exact T.mixed);clear aL aM)
 repeat' (first|(show dw _ .ret _ _;(try simp only [go_sem,simprocAttr]);refine ja hX 2 7 (.tip 96 3 []) ?_ ?_ (by decide) ⟨96,3,by decide, .inr rfl⟩ ?_;(iterate 2 (focus (simp only [go_sem,simprocAttr];done)));simp only [go_sem,simprocAttr])|((first|((with_reducible (first|apply oA|apply oB));exact rfl;intro K hK)|(refine hK _ ?_;clear hK K)|((with_reducible (first|apply oG|apply oH));iterate 3 exact rfl)|((with_reducible apply oI);(iterate 2 exact rfl);intro K hK)|(with_reducible (first|apply wI|apply wJ|apply wK)));try simp only [go_sem,simprocAttr])|(with_reducible (first|apply oC|apply oJ|exact oK|apply wA|apply wB|apply wC hX hC|apply wD hX hC|apply wE hX hC af|apply wF hX hC af|apply wG|apply wH|apply And.intro))|((with_reducible refine oD ?_ ?_);kernel_rfl)|((with_reducible (first|apply oE|apply oF));(iterate 3 exact rfl);all_goals (intro h;first|(exact absurd h (by decide))|((try simp only [go_sem,simprocAttr] at h);(try with_reducible intro K hK);simp only [go_sem,simprocAttr])))|((first|((with_reducible apply wL);exact rfl)|((with_reducible apply wM);exact rfl));all_goals (try ((with_reducible intro h);first|(exact absurd h (by decide))|(try simp only [go_sem,simprocAttr] at h))))|omega|(intro h))
 exact h.symm
theorem kP {m:List (Nat × AObj)} (hR:bq m) (f:Nat) (caps:List AV) (g:It→Bool) (ps:List It) (hf:∀p∈ps,Spec Tryz.prog f (Args (eT p::caps)) m (eB (g p)) m) (hl:ps.length≤9223372036854775807):
 Spec Tryz.prog 165 (Args [.d (sT ps), .fn f [] caps]) m (eN (bM g ps)) m:=by
 (refine Spec.intro (C:=T.cfg [] []) (rs:= [.t 4]) (T.aj _ _) Tryz.func165 rfl rfl Tryz.ntmps165 Tryz.results165 (fun p hp=>⟨(bq.low hR p hp).1,bq.nest hR p hp⟩) (fun p hp=>⟨(bq.low hR p hp).2,bq.nest hR p hp⟩) (by kernel_rfl) ?_;intro X hX hP hC aL aM vals hA;refine ⟨_,by simp,hA, ?_⟩;have af:X.P.follows .mixedOrders=true:=(by rw [hP];exact T.mixed);clear aL aM)
 repeat' (first|((first|((with_reducible (first|apply oA|apply oB));exact rfl;intro K hK)|(refine hK _ ?_;clear hK K)|((with_reducible (first|apply oG|apply oH));iterate 3 exact rfl)|((with_reducible apply oI);(iterate 2 exact rfl);intro K hK)|(with_reducible (first|apply wI|apply wJ|apply wK)));try simp only [go_sem,simprocAttr])|(with_reducible (first|apply oC|apply oJ|exact oK|apply wA|apply wB|apply wC hX hC|apply wD hX hC|apply wE hX hC af|apply wF hX hC af|apply wG|apply wH|apply And.intro))|((with_reducible refine oD ?_ ?_);kernel_rfl)|((with_reducible (first|apply oE|apply oF));(iterate 3 exact rfl);all_goals (intro h;first|(exact absurd h (by decide))|((try simp only [go_sem,simprocAttr] at h);(try with_reducible intro K hK);simp only [go_sem,simprocAttr])))|((first|((with_reducible apply wL);exact rfl)|((with_reducible apply wM);exact rfl));all_goals (try ((with_reducible intro h);first|(exact absurd h (by decide))|(try simp only [go_sem,simprocAttr] at h))))|omega|(intro h))
 refine ah (fun k:Nat=>k≤ps.length∧∀j,j<k→g (ps.getD j (0,0,0))=false) (fun k=>⟨[(0, .d (sT ps)),(1, .fn f [] caps),(7,eN ps.length),(8,eN k)],m⟩) (fun k=>ps.length - k) 0 (by simp) ?_ ?_
 ·(refine ⟨b7 ?_,fun _ _ h=>h⟩;simp [go_sem,simprocAttr])
 rintro k ⟨hk,hg⟩
 rcases Nat.lt_or_ge k ps.length with hlt|hge
 ·have hb:decide ((k:Int)<(ps.length:Int))=true:=decide_eq_true (by omega)
  have hf':=hf (ps.getD k (0,0,0)) (aW hlt)
  repeat' (first|((first|((with_reducible (first|apply oA|apply oB));exact rfl;intro K hK)|(refine hK _ ?_;clear hK K)|((with_reducible (first|apply oG|apply oH));iterate 3 exact rfl)|((with_reducible apply oI);(iterate 2 exact rfl);intro K hK)|(with_reducible (first|apply wI|apply wJ|apply wK)));try simp only [go_sem,simprocAttr,hb])|(with_reducible (first|apply oC|apply oJ|exact oK|apply wA|apply wB|apply wC hX hC|apply wD hX hC|apply wE hX hC af|apply wF hX hC af|apply wG|apply wH|apply And.intro))|((with_reducible refine oD ?_ ?_);kernel_rfl)|((with_reducible (first|apply oE|apply oF));(iterate 3 exact rfl);all_goals (intro h;first|(exact absurd h (by decide))|((try simp only [go_sem,simprocAttr,hb] at h);(try with_reducible intro K hK);simp only [go_sem,simprocAttr,hb])))|((first|((with_reducible apply wL);exact rfl)|((with_reducible apply wM);exact rfl));all_goals (try ((with_reducible intro h);first|(exact absurd h (by decide))|(try simp only [go_sem,simprocAttr,hb] at h))))|omega|((first|(first|(refine bg hX hC hP hR (hf') rfl rfl rfl ?_ ?_ rfl rfl ?_;(focus (simp only [go_sem,simprocAttr,hb];done));(focus (first|(intro p hp;exact aP (bq.nd hR) hp)|(simp [go_sem,simprocAttr,hb];done))))|(refine bg hX hC hP hR (hf') rfl rfl rfl ?_ ?_ ?_ rfl ?_;(focus (simp only [go_sem,simprocAttr,hb];done));(focus (first|(intro p hp;exact aP (bq.nd hR) hp)|(simp [go_sem,simprocAttr,hb];done)));(focus (simp [go_sem,simprocAttr,hb];done)))));try simp only [go_sem,simprocAttr,hb])|(intro h))
  ·exact (dD (by omega) hg h).symm
  ·exact fF hR
  ·refine ⟨k+1,⟨by omega,fun j hj=> ?_⟩, ?_,by omega⟩
   ·by_cases hjk:j=k
    ·subst hjk;exact h
    ·exact hg j (by omega)
   ·(refine ⟨b7 ?_,fun _ _ h=>h⟩;simp [go_sem,simprocAttr,hb])
 ·have hb:decide ((k:Int)<(ps.length:Int))=false:=decide_eq_false (by omega)
  repeat' (first|((first|((with_reducible (first|apply oA|apply oB));exact rfl;intro K hK)|(refine hK _ ?_;clear hK K)|((with_reducible (first|apply oG|apply oH));iterate 3 exact rfl)|((with_reducible apply oI);(iterate 2 exact rfl);intro K hK)|(with_reducible (first|apply wI|apply wJ|apply wK)));try simp only [go_sem,simprocAttr,hb])|(with_reducible (first|apply oC|apply oJ|exact oK|apply wA|apply wB|apply wC hX hC|apply wD hX hC|apply wE hX hC af|apply wF hX hC af|apply wG|apply wH|apply And.intro))|((with_reducible refine oD ?_ ?_);kernel_rfl)|((with_reducible (first|apply oE|apply oF));(iterate 3 exact rfl);all_goals (intro h;first|(exact absurd h (by decide))|((try simp only [go_sem,simprocAttr,hb] at h);(try with_reducible intro K hK);simp only [go_sem,simprocAttr,hb])))|((first|((with_reducible apply wL);exact rfl)|((with_reducible apply wM);exact rfl));all_goals (try ((with_reducible intro h);first|(exact absurd h (by decide))|(try simp only [go_sem,simprocAttr,hb] at h))))|omega|((first|(first|(refine bg hX hC hP hR (hf') rfl rfl rfl ?_ ?_ rfl rfl ?_;(focus (simp only [go_sem,simprocAttr,hb];done));(focus (first|(intro p hp;exact aP (bq.nd hR) hp)|(simp [go_sem,simprocAttr,hb];done))))|(refine bg hX hC hP hR (hf') rfl rfl rfl ?_ ?_ ?_ rfl ?_;(focus (simp only [go_sem,simprocAttr,hb];done));(focus (first|(intro p hp;exact aP (bq.nd hR) hp)|(simp [go_sem,simprocAttr,hb];done)));(focus (simp [go_sem,simprocAttr,hb];done)))));try simp only [go_sem,simprocAttr,hb])|(intro h))
  ·exact (cA (0,0,0) fun j hj=>hg j (by omega)).symm
  ·exact fF hR
theorem nH {m:List (Nat × AObj)} (hR:bq m) (f:Nat) (caps:List AV) (g:It→Bool) (ps:List It) (hf:∀p∈ps,Spec Tryz.prog f (Args (eT p::caps)) m (eB (g p)) m) (hl:ps.length≤9223372036854775807):
 Spec Tryz.prog 152 (Args [.d (sT ps), .fn f [] caps]) m (eB (ps.any g)) m:=by
 (refine Spec.intro (C:=T.cfg [] []) (rs:= [.t 4]) (T.aj _ _) Tryz.func152 rfl rfl Tryz.ntmps152 Tryz.results152 (fun p hp=>⟨(bq.low hR p hp).1,bq.nest hR p hp⟩) (fun p hp=>⟨(bq.low hR p hp).2,bq.nest hR p hp⟩) (by kernel_rfl) ?_;intro X hX hP hC aL aM vals hA;refine ⟨_,by simp,hA, ?_⟩;have af:X.P.follows .mixedOrders=true:=(by rw [hP];exact T.mixed);clear aL aM)
 repeat' (first|((first|((with_reducible (first|apply oA|apply oB));exact rfl;intro K hK)|(refine hK _ ?_;clear hK K)|((with_reducible (first|apply oG|apply oH));iterate 3 exact rfl)|((with_reducible apply oI);(iterate 2 exact rfl);intro K hK)|(with_reducible (first|apply wI|apply wJ|apply wK)));try simp only [go_sem,simprocAttr])|(with_reducible (first|apply oC|apply oJ|exact oK|apply wA|apply wB|apply wC hX hC|apply wD hX hC|apply wE hX hC af|apply wF hX hC af|apply wG|apply wH|apply And.intro))|((with_reducible refine oD ?_ ?_);kernel_rfl)|((with_reducible (first|apply oE|apply oF));(iterate 3 exact rfl);all_goals (intro h;first|(exact absurd h (by decide))|((try simp only [go_sem,simprocAttr] at h);(try with_reducible intro K hK);simp only [go_sem,simprocAttr])))|((first|((with_reducible apply wL);exact rfl)|((with_reducible apply wM);exact rfl));all_goals (try ((with_reducible intro h);first|(exact absurd h (by decide))|(try simp only [go_sem,simprocAttr] at h))))|omega|((first|(first|(refine bg hX hC hP hR (kP hR f caps g ps hf hl) rfl rfl rfl ?_ ?_ rfl rfl ?_;(focus (simp only [go_sem,simprocAttr];done));(focus (first|(intro p hp;exact aP (bq.nd hR) hp)|(simp [go_sem,simprocAttr];done))))|(refine bg hX hC hP hR (kP hR f caps g ps hf hl) rfl rfl rfl ?_ ?_ ?_ rfl ?_;(focus (simp only [go_sem,simprocAttr];done));(focus (first|(intro p hp;exact aP (bq.nd hR) hp)|(simp [go_sem,simprocAttr];done)));(focus (simp [go_sem,simprocAttr];done)))));try simp only [go_sem,simprocAttr])|(intro h))
 ·exact fW g ps
 ·exact fF hR
theorem iO (n:Int) (h0:0<n) (hl:n≤1000000):Spec Tryz.prog 154 (Args [.nil 96,eN n]) [] (.ref 10000) [(10000, .own 96 3 [])]:=by
 (refine Spec.dK (C:=T.cfg [] []) (rs:= [.t 4]) [(10000,25)] (T.aj _ _) Tryz.func154 rfl rfl Tryz.ntmps154 Tryz.results154 (by simp [AObj.isNest]) (by simp [AObj.isNest]) (by first|(simp [look];done)|(simp [asN];done)|(intro l hl;simp only [asN];repeat (rw [if_neg (fun e=>by subst e;simp [look] at hl)]))) (by first|(simp [look];done)|(simp [asN];done)|(intro l hl;simp only [asN];repeat (rw [if_neg (fun e=>by subst e;simp [look] at hl)]))) (by kernel_rfl) ?_;intro X hX hP hC aL aM vals hA;refine ⟨_,by simp,hA, ?_⟩;have af:X.P.follows .mixedOrders=true:=(by rw [hP];exact T.mixed);clear aL aM)
 repeat' (first|((first|((with_reducible (first|apply oA|apply oB));exact rfl;intro K hK)|(refine hK _ ?_;clear hK K)|((with_reducible (first|apply oG|apply oH));iterate 3 exact rfl)|((with_reducible apply oI);(iterate 2 exact rfl);intro K hK)|(with_reducible (first|apply wI|apply wJ|apply wK)));try simp only [go_sem,simprocAttr])|(with_reducible (first|apply oC|apply oJ|exact oK|apply wA|apply wB|apply wC hX hC|apply wD hX hC|apply wE hX hC af|apply wF hX hC af|apply wG|apply wH|apply And.intro))|((with_reducible refine oD ?_ ?_);kernel_rfl)|((with_reducible (first|apply oE|apply oF));(iterate 3 exact rfl);all_goals (intro h;first|(exact absurd h (by decide))|((try simp only [go_sem,simprocAttr] at h);(try with_reducible intro K hK);simp only [go_sem,simprocAttr])))|((first|((with_reducible apply wL);exact rfl)|((with_reducible apply wM);exact rfl));all_goals (try ((with_reducible intro h);first|(exact absurd h (by decide))|(try simp only [go_sem,simprocAttr] at h))))|omega|(intro h))
def vT (ls:List (List It)):List (List D):=ls.map fun l=> [sT l]
theorem vT_length {ls:List (List It)} :(vT ls).length=ls.length:=by simp [vT]
theorem qR {ls:List (List It)} {k:Nat} (h:k<ls.length) (d:List D):(vT ls).getD k d= [sT (ls.getD k [])]:=by
 simp [vT,List.getD_eq_getElem?_getD,List.getElem?_eq_getElem h]
attribute [go_sem] vT_length
theorem s4 {α:Type} {ls:List (List α)} {k:Nat} (h:k<ls.length):(ls.take (k+1)).flatten=(ls.take k).flatten++ls.getD k []:=by
 rw [List.take_add_one,List.flatten_append,List.getElem?_eq_getElem h,List.getD_eq_getElem?_getD,List.getElem?_eq_getElem h]
 simp
theorem oO {α:Type} {ls:List (List α)} {k:Nat} :(ls.take k).flatten.length≤ls.flatten.length:=by
 have:=congrArg (fun x=>x.flatten.length) (List.take_append_drop k ls)
 simp only [List.flatten_append,List.length_append] at this
 omega
theorem wm (ls:List (List It)) (hn:ls.length≤1000) (h0:0<ls.flatten.length) (hl:ls.flatten.length≤1000000):Spec Tryz.prog 139 (Args [.d (.sl 1 (vT ls))]) [] (.d (sT ls.flatten)) []:=by
 (refine Spec.intro (C:=T.cfg [] []) (rs:= [.t 2]) (T.aj _ _) Tryz.func139 rfl rfl Tryz.ntmps139 Tryz.results139 (by simp [AObj.isNest]) (by simp [AObj.isNest]) (by kernel_rfl) ?_;intro X hX hP hC aL aM vals hA;refine ⟨_,by simp,hA, ?_⟩;have af:X.P.follows .mixedOrders=true:=(by rw [hP];exact T.mixed);clear aL aM)
 repeat' (first|((first|((with_reducible (first|apply oA|apply oB));exact rfl;intro K hK)|(refine hK _ ?_;clear hK K)|((with_reducible (first|apply oG|apply oH));iterate 3 exact rfl)|((with_reducible apply oI);(iterate 2 exact rfl);intro K hK)|(with_reducible (first|apply wI|apply wJ|apply wK)));try simp only [go_sem,simprocAttr])|(with_reducible (first|apply oC|apply oJ|exact oK|apply wA|apply wB|apply wC hX hC|apply wD hX hC|apply wE hX hC af|apply wF hX hC af|apply wG|apply wH|apply And.intro))|((with_reducible refine oD ?_ ?_);kernel_rfl)|((with_reducible (first|apply oE|apply oF));(iterate 3 exact rfl);all_goals (intro h;first|(exact absurd h (by decide))|((try simp only [go_sem,simprocAttr] at h);(try with_reducible intro K hK);simp only [go_sem,simprocAttr])))|((first|((with_reducible apply wL);exact rfl)|((with_reducible apply wM);exact rfl));all_goals (try ((with_reducible intro h);first|(exact absurd h (by decide))|(try simp only [go_sem,simprocAttr] at h))))|omega|((first|(refine az hX hC hP [(10000,33)] (iO (ls.flatten.length:Int) (by omega) (by omega)) rfl rfl rfl ?_ ?_ ?_ ?_ ?_ ?_ ?_ ?_ ?_ ?_ ?_ ?_ ?_ ?_;(focus (simp only [go_sem,simprocAttr];done));(iterate 12 (focus (simp [go_sem,simprocAttr];done)));simp only [go_sem,simprocAttr,List.map_cons,List.map_nil]));try simp only [go_sem,simprocAttr])|(intro h))
 refine ah (fun k:Nat=>k≤ls.length) (fun k=>⟨[(0, .d (.sl 1 (vT ls))),(9, .d (.sl 1 (vT ls))),(10,eN ls.length),(11,eN k),(3,eN ((ls.take k).flatten.length))], []⟩) (fun k=>ls.length - k) 0 (by omega) ?_ ?_
 ·(refine Le.of ?_ ?_<;>simp [go_sem,simprocAttr])
 ·rintro k hk
  rcases Nat.lt_or_ge k ls.length with hlt|hge
  ·have hb:decide ((k:Int)<(ls.length:Int))=true:=decide_eq_true (by omega)
   have hv:=qR hlt
   have hf:=s4 hlt
   have K1:=oO (ls:=ls) (k:=k)
   have HF:=oO (ls:=ls) (k:=k+1)
   rw [hf,List.length_append] at HF
   have hneg:decide (((ls.take k).flatten.length:Int)+((ls.getD k []).length:Int)<0)=false:=decide_eq_false (by omega)
   repeat' (first|((first|((with_reducible (first|apply oA|apply oB));exact rfl;intro K hK)|(refine hK _ ?_;clear hK K)|((with_reducible (first|apply oG|apply oH));iterate 3 exact rfl)|((with_reducible apply oI);(iterate 2 exact rfl);intro K hK)|(with_reducible (first|apply wI|apply wJ|apply wK)));try simp only [go_sem,simprocAttr,hb,hv,hneg])|(with_reducible (first|apply oC|apply oJ|exact oK|apply wA|apply wB|apply wC hX hC|apply wD hX hC|apply wE hX hC af|apply wF hX hC af|apply wG|apply wH|apply And.intro))|((with_reducible refine oD ?_ ?_);kernel_rfl)|((with_reducible (first|apply oE|apply oF));(iterate 3 exact rfl);all_goals (intro h;first|(exact absurd h (by decide))|((try simp only [go_sem,simprocAttr,hb,hv,hneg] at h);(try with_reducible intro K hK);simp only [go_sem,simprocAttr,hb,hv,hneg])))|((first|((with_reducible apply wL);exact rfl)|((with_reducible apply wM);exact rfl));all_goals (try ((with_reducible intro h);first|(exact absurd h (by decide))|(try simp only [go_sem,simprocAttr,hb,hv,hneg] at h))))|omega|((first|(refine az hX hC hP [(10000,33)] (iO (ls.flatten.length:Int) (by omega) (by omega)) rfl rfl rfl ?_ ?_ ?_ ?_ ?_ ?_ ?_ ?_ ?_ ?_ ?_ ?_ ?_ ?_;(focus (simp only [go_sem,simprocAttr,hb,hv,hneg];done));(iterate 12 (focus (simp [go_sem,simprocAttr,hb,hv,hneg];done)));simp only [go_sem,simprocAttr,hb,hv,hneg,List.map_cons,List.map_nil]));try simp only [go_sem,simprocAttr,hb,hv,hneg])|(intro h))
   refine ⟨k+1,by omega, ?_,by omega⟩
   simp only [hf]
   refine Le.of ?_ ?_<;>simp [go_sem,simprocAttr,hb,hv,hneg]
  ·have hb:decide ((k:Int)<(ls.length:Int))=false:=decide_eq_false (by omega)
   have ht:ls.take k=ls:=List.take_of_length_le (by omega)
   repeat' (first|((first|((with_reducible (first|apply oA|apply oB));exact rfl;intro K hK)|(refine hK _ ?_;clear hK K)|((with_reducible (first|apply oG|apply oH));iterate 3 exact rfl)|((with_reducible apply oI);(iterate 2 exact rfl);intro K hK)|(with_reducible (first|apply wI|apply wJ|apply wK)));try simp only [go_sem,simprocAttr,hb,ht])|(with_reducible (first|apply oC|apply oJ|exact oK|apply wA|apply wB|apply wC hX hC|apply wD hX hC|apply wE hX hC af|apply wF hX hC af|apply wG|apply wH|apply And.intro))|((with_reducible refine oD ?_ ?_);kernel_rfl)|((with_reducible (first|apply oE|apply oF));(iterate 3 exact rfl);all_goals (intro h;first|(exact absurd h (by decide))|((try simp only [go_sem,simprocAttr,hb,ht] at h);(try with_reducible intro K hK);simp only [go_sem,simprocAttr,hb,ht])))|((first|((with_reducible apply wL);exact rfl)|((with_reducible apply wM);exact rfl));all_goals (try ((with_reducible intro h);first|(exact absurd h (by decide))|(try simp only [go_sem,simprocAttr,hb,ht] at h))))|omega|((first|(refine az hX hC hP [(10000,33)] (iO (ls.flatten.length:Int) (by omega) (by omega)) rfl rfl rfl ?_ ?_ ?_ ?_ ?_ ?_ ?_ ?_ ?_ ?_ ?_ ?_ ?_ ?_;(focus (simp only [go_sem,simprocAttr,hb,ht];done));(iterate 12 (focus (simp [go_sem,simprocAttr,hb,ht];done)));simp only [go_sem,simprocAttr,hb,ht,List.map_cons,List.map_nil]));try simp only [go_sem,simprocAttr,hb,ht])|(intro h))
   refine ah (fun k:Nat=>k≤ls.length) (fun k=>⟨[(25, .d (.sl 1 (vT ls))),(26,eN ls.length),(27,eN k),(6, .ref 33)], [(33, .own 96 3 ((ls.take k).flatten.map rT))]⟩) (fun k=>ls.length - k) 0 (by omega) ?_ ?_
   ·(refine Le.of ?_ ?_<;>simp [go_sem,simprocAttr,hb,ht])
   ·clear hb ht hk hge
    rintro k hk
    rcases Nat.lt_or_ge k ls.length with hlt|hge
    ·have hb:decide ((k:Int)<(ls.length:Int))=true:=decide_eq_true (by omega)
     have hv:=qR hlt
     have hf:=s4 hlt
     have K1:=oO (ls:=ls) (k:=k)
     have HF:=oO (ls:=ls) (k:=k+1)
     rw [hf,List.length_append] at HF
     repeat' (first|((first|((with_reducible (first|apply oA|apply oB));exact rfl;intro K hK)|(refine hK _ ?_;clear hK K)|((with_reducible (first|apply oG|apply oH));iterate 3 exact rfl)|((with_reducible apply oI);(iterate 2 exact rfl);intro K hK)|(with_reducible (first|apply wI|apply wJ|apply wK)));try simp only [go_sem,simprocAttr,hb,hv])|(with_reducible (first|apply oC|apply oJ|exact oK|apply wA|apply wB|apply wC hX hC|apply wD hX hC|apply wE hX hC af|apply wF hX hC af|apply wG|apply wH|apply And.intro))|((with_reducible refine oD ?_ ?_);kernel_rfl)|((with_reducible (first|apply oE|apply oF));(iterate 3 exact rfl);all_goals (intro h;first|(exact absurd h (by decide))|((try simp only [go_sem,simprocAttr,hb,hv] at h);(try with_reducible intro K hK);simp only [go_sem,simprocAttr,hb,hv])))|((first|((with_reducible apply wL);exact rfl)|((with_reducible apply wM);exact rfl));all_goals (try ((with_reducible intro h);first|(exact absurd h (by decide))|(try simp only [go_sem,simprocAttr,hb,hv] at h))))|omega|((first|(refine az hX hC hP [(10000,33)] (iO (ls.flatten.length:Int) (by omega) (by omega)) rfl rfl rfl ?_ ?_ ?_ ?_ ?_ ?_ ?_ ?_ ?_ ?_ ?_ ?_ ?_ ?_;(focus (simp only [go_sem,simprocAttr,hb,hv];done));(iterate 12 (focus (simp [go_sem,simprocAttr,hb,hv];done)));simp only [go_sem,simprocAttr,hb,hv,List.map_cons,List.map_nil]));try simp only [go_sem,simprocAttr,hb,hv])|(intro h))
     refine ⟨k+1,by omega, ?_,by omega⟩
     simp only [hf]
     refine Le.of ?_ ?_<;>simp [go_sem,simprocAttr,hb,hv]
    ·have hb:decide ((k:Int)<(ls.length:Int))=false:=decide_eq_false (by omega)
     have ht:ls.take k=ls:=List.take_of_length_le (by omega)
     repeat' (first|((first|((with_reducible (first|apply oA|apply oB));exact rfl;intro K hK)|(refine hK _ ?_;clear hK K)|((with_reducible (first|apply oG|apply oH));iterate 3 exact rfl)|((with_reducible apply oI);(iterate 2 exact rfl);intro K hK)|(with_reducible (first|apply wI|apply wJ|apply wK)));try simp only [go_sem,simprocAttr,hb,ht])|(with_reducible (first|apply oC|apply oJ|exact oK|apply wA|apply wB|apply wC hX hC|apply wD hX hC|apply wE hX hC af|apply wF hX hC af|apply wG|apply wH|apply And.intro))|((with_reducible refine oD ?_ ?_);kernel_rfl)|((with_reducible (first|apply oE|apply oF));(iterate 3 exact rfl);all_goals (intro h;first|(exact absurd h (by decide))|((try simp only [go_sem,simprocAttr,hb,ht] at h);(try with_reducible intro K hK);simp only [go_sem,simprocAttr,hb,ht])))|((first|((with_reducible apply wL);exact rfl)|((with_reducible apply wM);exact rfl));all_goals (try ((with_reducible intro h);first|(exact absurd h (by decide))|(try simp only [go_sem,simprocAttr,hb,ht] at h))))|omega|((first|(refine az hX hC hP [(10000,33)] (iO (ls.flatten.length:Int) (by omega) (by omega)) rfl rfl rfl ?_ ?_ ?_ ?_ ?_ ?_ ?_ ?_ ?_ ?_ ?_ ?_ ?_ ?_;(focus (simp only [go_sem,simprocAttr,hb,ht];done));(iterate 12 (focus (simp [go_sem,simprocAttr,hb,ht];done)));simp only [go_sem,simprocAttr,hb,ht,List.map_cons,List.map_nil]));try simp only [go_sem,simprocAttr,hb,ht])|(intro h))
end Go.Ab
end
section
namespace Go.Ab
open Go.Proofs
attribute [local congr] ACall.congr
set_option maxRecDepth 10000
set_option maxHeartbeats 1000000
structure Fr where
 row:List It
 pl:List Int
def fL (g:Gr) (f:Fr):D:= .pt [sT f.row,vw g,sI f.pl]
def fu (row:List It) (x:Int):Nat→Int × Int × Int
 |0=>(-1,0,0)
 |k+1=>if (row.getD k (0,0,0)).2.2=x then (if (fu row x k).1= -1 then (k:Int) else (fu row x k).1,(k:Int)+1,(fu row x k).2.2+1) else fu row x k
def aZ (row:List It) (x:Int):Int × Int × Int:=fu row x row.length
theorem nI {row:List It} {x:Int} {k:Nat} :fu row x (k+1)=if (row.getD k (0,0,0)).2.2=x then (if (fu row x k).1= -1 then (k:Int) else (fu row x k).1,(k:Int)+1,(fu row x k).2.2+1) else fu row x k:=rfl
theorem eL {row:List It} {x:Int} :∀k:Nat,(fu row x k=(-1,0,0)∧∀j,j<k→(row.getD j (0,0,0)).2.2≠x)∨
 ∃a b c:Nat,fu row x k=((a:Int),(b:Int),(c:Int))∧a<b∧b≤k∧0<c∧c≤k∧(row.getD a (0,0,0)).2.2=x∧(row.getD (b - 1) (0,0,0)).2.2=x∧(∀j,j<a→(row.getD j (0,0,0)).2.2≠x)∧(∀j,b≤j→j<k→(row.getD j (0,0,0)).2.2≠x)
 |0=> .inl ⟨rfl,fun j hj=>by omega⟩
 |k+1=>by
  rw [nI]
  by_cases hx:(row.getD k (0,0,0)).2.2=x
  ·rw [if_pos hx]
   right
   rcases eL (row:=row) (x:=x) k with ⟨h1,h2⟩|⟨a,b,c,h1,h2,h3,h4,h5,h6,h7,h8,h9⟩
   ·refine ⟨k,k+1,1,by rw [h1];rfl,by omega,by omega,by omega,by omega,hx,hx,h2,fun j h1 h2=>by omega⟩
   ·refine ⟨a,k+1,c+1,by rw [h1];simp only [Prod.mk.injEq];exact ⟨by rw [if_neg (by omega)],by omega,by omega⟩,by omega,by omega,by omega,by omega,h6,hx,h8,fun j h1 h2=>by omega⟩
  ·rw [if_neg hx]
   rcases eL (row:=row) (x:=x) k with ⟨h1,h2⟩|⟨a,b,c,h1,h2,h3,h4,h5,h6,h7,h8,h9⟩
   ·refine .inl ⟨h1,fun j hj=> ?_⟩
    by_cases hjk:j=k
    ·subst hjk;exact hx
    ·exact h2 j (by omega)
   ·refine .inr ⟨a,b,c,h1,h2,by omega,h4,by omega,h6,h7,h8,fun j Mt QB=> ?_⟩
    by_cases hjk:j=k
    ·subst hjk;exact hx
    ·exact h9 j Mt (by omega)
theorem er (ds:List D) (row:List It) (x:Int) (hl:row.length≤1000000):Spec Tryz.prog 113 (Args [.d (.pt (sT row::ds)),eN x]) [] (.tup [eN (aZ row x).1,eN (aZ row x).2.1,eN (aZ row x).2.2]) []:=by
 (refine Spec.intro (C:=T.cfg [] []) (rs:= [.t 4, .t 5, .t 6]) (T.aj _ _) Tryz.func113 rfl rfl Tryz.ntmps113 Tryz.results113 (by simp [AObj.isNest]) (by simp [AObj.isNest]) (by kernel_rfl) ?_;intro X hX hP hC aL aM vals hA;refine ⟨_,by simp,hA, ?_⟩;have af:X.P.follows .mixedOrders=true:=(by rw [hP];exact T.mixed);clear aL aM)
 repeat' (first|((first|((with_reducible (first|apply oA|apply oB));exact rfl;intro K hK)|(refine hK _ ?_;clear hK K)|((with_reducible (first|apply oG|apply oH));iterate 3 exact rfl)|((with_reducible apply oI);(iterate 2 exact rfl);intro K hK)|(with_reducible (first|apply wI|apply wJ|apply wK)));try simp only [go_sem,simprocAttr,aZ])|(with_reducible (first|apply oC|apply oJ|exact oK|apply wA|apply wB|apply wC hX hC|apply wD hX hC|apply wE hX hC af|apply wF hX hC af|apply wG|apply wH|apply And.intro))|((with_reducible refine oD ?_ ?_);kernel_rfl)|((with_reducible (first|apply oE|apply oF));(iterate 3 exact rfl);all_goals (intro h;first|(exact absurd h (by decide))|((try simp only [go_sem,simprocAttr,aZ] at h);(try with_reducible intro K hK);simp only [go_sem,simprocAttr,aZ])))|((first|((with_reducible apply wL);exact rfl)|((with_reducible apply wM);exact rfl));all_goals (try ((with_reducible intro h);first|(exact absurd h (by decide))|(try simp only [go_sem,simprocAttr,aZ] at h))))|omega|(intro h))
 refine ah (fun k:Nat=>k≤row.length) (fun k=>⟨[(1,eN x),(12, .d (sT row)),(13,eN row.length),(14,eN k),(4,eN (fu row x k).1),(5,eN (fu row x k).2.1),(6,eN (fu row x k).2.2)], []⟩) (fun k=>row.length - k) 0 (by simp) ?_ ?_
 ·refine Le.of ?_ ?_<;>simp [go_sem,simprocAttr,aZ,fu]
 rintro k hk
 rcases Nat.lt_or_ge k row.length with hlt|hge
 ·have hb:decide ((k:Int)<(row.length:Int))=true:=decide_eq_true (by omega)
  have hok:=eL (row:=row) (x:=x) k
  have hc: -1≤(fu row x k).2.2∧(fu row x k).2.2≤k:=by
   rcases hok with ⟨h1,_⟩|⟨a,b,c,h1,_,_,_,_,_⟩<;>rw [h1]<;>simp only<;>omega
  have eV:=nI (row:=row) (x:=x) (k:=k)
  repeat' (first|((first|((with_reducible (first|apply oA|apply oB));exact rfl;intro K hK)|(refine hK _ ?_;clear hK K)|((with_reducible (first|apply oG|apply oH));iterate 3 exact rfl)|((with_reducible apply oI);(iterate 2 exact rfl);intro K hK)|(with_reducible (first|apply wI|apply wJ|apply wK)));try simp only [go_sem,simprocAttr,hb])|(with_reducible (first|apply oC|apply oJ|exact oK|apply wA|apply wB|apply wC hX hC|apply wD hX hC|apply wE hX hC af|apply wF hX hC af|apply wG|apply wH|apply And.intro))|((with_reducible refine oD ?_ ?_);kernel_rfl)|((with_reducible (first|apply oE|apply oF));(iterate 3 exact rfl);all_goals (intro h;first|(exact absurd h (by decide))|((try simp only [go_sem,simprocAttr,hb] at h);(try with_reducible intro K hK);simp only [go_sem,simprocAttr,hb])))|((first|((with_reducible apply wL);exact rfl)|((with_reducible apply wM);exact rfl));all_goals (try ((with_reducible intro h);first|(exact absurd h (by decide))|(try simp only [go_sem,simprocAttr,hb] at h))))|omega|(intro h))
  all_goals (first|rw [if_neg (by assumption)] at eV|(rw [if_pos (by assumption)] at eV;first|rw [if_pos (by assumption)] at eV|rw [if_neg (by assumption)] at eV))
  all_goals (refine ⟨k+1,by omega, ?_,by omega⟩;refine Le.of ?_ ?_<;>simp [go_sem,simprocAttr,hb,eV])
 ·have hb:decide ((k:Int)<(row.length:Int))=false:=decide_eq_false (by omega)
  obtain rfl:k=row.length:=by omega
  repeat' (first|((first|((with_reducible (first|apply oA|apply oB));exact rfl;intro K hK)|(refine hK _ ?_;clear hK K)|((with_reducible (first|apply oG|apply oH));iterate 3 exact rfl)|((with_reducible apply oI);(iterate 2 exact rfl);intro K hK)|(with_reducible (first|apply wI|apply wJ|apply wK)));try simp only [go_sem,simprocAttr,hb,aZ])|(with_reducible (first|apply oC|apply oJ|exact oK|apply wA|apply wB|apply wC hX hC|apply wD hX hC|apply wE hX hC af|apply wF hX hC af|apply wG|apply wH|apply And.intro))|((with_reducible refine oD ?_ ?_);kernel_rfl)|((with_reducible (first|apply oE|apply oF));(iterate 3 exact rfl);all_goals (intro h;first|(exact absurd h (by decide))|((try simp only [go_sem,simprocAttr,hb,aZ] at h);(try with_reducible intro K hK);simp only [go_sem,simprocAttr,hb,aZ])))|((first|((with_reducible apply wL);exact rfl)|((with_reducible apply wM);exact rfl));all_goals (try ((with_reducible intro h);first|(exact absurd h (by decide))|(try simp only [go_sem,simprocAttr,hb,aZ] at h))))|omega|(intro h))
def kC (x:Int) (t:It):Bool:=decide (t.2.2≠x)&&decide (t.2.2≠ -1)
def qt (row:List It) (x:Int) (a b:Nat):Bool:= !((row.take b).drop a).any (kC x)
theorem BI (x:Int):bq [(10000, .rob [eN x])]:=⟨by simp [AObj.ro],by simp [nodupM,look],by simp,by simp [AObj.ids,AV.ids,AV.idss,eN]⟩
theorem zC (x:Int) (t:It):Spec Tryz.prog 153 (Args [eT t, .ptr 10000 0]) [(10000, .rob [eN x])] (eB (kC x t)) [(10000, .rob [eN x])]:=by
 (refine Spec.intro (C:=T.cfg [] []) (rs:= [.t 3]) (T.aj _ _) Tryz.func153 rfl rfl Tryz.ntmps153 Tryz.results153 (fun p hp=>⟨(bq.low (BI x) p hp).1,bq.nest (BI x) p hp⟩) (fun p hp=>⟨(bq.low (BI x) p hp).2,bq.nest (BI x) p hp⟩) (by kernel_rfl) ?_;intro X hX hP hC aL aM vals hA;refine ⟨_,by simp,hA, ?_⟩;have af:X.P.follows .mixedOrders=true:=(by rw [hP];exact T.mixed);clear aL aM)
 repeat' (first|((first|((with_reducible (first|apply oA|apply oB));exact rfl;intro K hK)|(refine hK _ ?_;clear hK K)|((with_reducible (first|apply oG|apply oH));iterate 3 exact rfl)|((with_reducible apply oI);(iterate 2 exact rfl);intro K hK)|(with_reducible (first|apply wI|apply wJ|apply wK)));try simp only [go_sem,simprocAttr])|(with_reducible (first|apply oC|apply oJ|exact oK|apply wA|apply wB|apply wC hX hC|apply wD hX hC|apply wE hX hC af|apply wF hX hC af|apply wG|apply wH|apply And.intro))|((with_reducible refine oD ?_ ?_);kernel_rfl)|((with_reducible (first|apply oE|apply oF));(iterate 3 exact rfl);all_goals (intro h;first|(exact absurd h (by decide))|((try simp only [go_sem,simprocAttr] at h);(try with_reducible intro K hK);simp only [go_sem,simprocAttr])))|((first|((with_reducible apply wL);exact rfl)|((with_reducible apply wM);exact rfl));all_goals (try ((with_reducible intro h);first|(exact absurd h (by decide))|(try simp only [go_sem,simprocAttr] at h))))|omega|(intro h))
 all_goals (simp only [kC];first|exact fF (BI x)|simp [*])
theorem gl (ds:List D) (row:List It) (x:Int) (a b:Nat) (hab:a≤b) (hb:b≤row.length) (hl:row.length≤1000000):Spec Tryz.prog 138 (Args [.d (.pt (sT row::ds)),eN x,eN a,eN b]) [] (eB (qt row x a b)) []:=by
 have EV:sT ((row.take b).drop a)= .sl 3 (((row.map rT).take b).drop a):=by simp [sT,List.map_take,List.map_drop]
 have kV:((row.take b).drop a).length≤9223372036854775807:=by simp;omega
 (refine Spec.intro (C:=T.cfg [] []) (rs:= [.t 8]) (T.aj _ _) Tryz.func138 rfl rfl Tryz.ntmps138 Tryz.results138 (by simp [AObj.isNest]) (by simp [AObj.isNest]) (by kernel_rfl) ?_;intro X hX hP hC aL aM vals hA;refine ⟨_,by simp,hA, ?_⟩;have af:X.P.follows .mixedOrders=true:=(by rw [hP];exact T.mixed);clear aL aM)
 repeat' (first|((first|((with_reducible (first|apply oA|apply oB));exact rfl;intro K hK)|(refine hK _ ?_;clear hK K)|((with_reducible (first|apply oG|apply oH));iterate 3 exact rfl)|((with_reducible apply oI);(iterate 2 exact rfl);intro K hK)|(with_reducible (first|apply wI|apply wJ|apply wK)));try simp only [go_sem,simprocAttr,List.map_take,List.map_drop])|(with_reducible (first|apply oC|apply oJ|exact oK|apply wA|apply wB|apply wC hX hC|apply wD hX hC|apply wE hX hC af|apply wF hX hC af|apply wG|apply wH|apply And.intro))|((with_reducible refine oD ?_ ?_);kernel_rfl)|((with_reducible (first|apply oE|apply oF));(iterate 3 exact rfl);all_goals (intro h;first|(exact absurd h (by decide))|((try simp only [go_sem,simprocAttr,List.map_take,List.map_drop] at h);(try with_reducible intro K hK);simp only [go_sem,simprocAttr,List.map_take,List.map_drop])))|((first|((with_reducible apply wL);exact rfl)|((with_reducible apply wM);exact rfl));all_goals (try ((with_reducible intro h);first|(exact absurd h (by decide))|(try simp only [go_sem,simprocAttr,List.map_take,List.map_drop] at h))))|omega|((first|(refine cF hX hC hP [(10000,5)] (nH (BI x) _ [.ptr 10000 0] (kC x) ((row.take b).drop a) (fun t _=>zC x t) kV) rfl rfl rfl ?_ ?_ ?_ ?_ ?_ ?_ rfl rfl ?_ ?_;(focus (simp only [go_sem,simprocAttr,List.map_take,List.map_drop];done));(iterate 6 (focus (simp [go_sem,simprocAttr,List.map_take,List.map_drop];done)));simp only [go_sem,simprocAttr,List.map_take,List.map_drop,List.map_cons,List.map_nil]));try simp only [go_sem,simprocAttr,List.map_take,List.map_drop])|(intro h))
 rfl
end Go.Ab
end
section
namespace Go.Ab
open Go.Proofs
attribute [local congr] ACall.congr
set_option maxRecDepth 10000
set_option maxHeartbeats 2000000
def gm (g:Gr) (f:Fr) (x:Int):Bool:=
 if x<0∨g.n≤x∨x∈f.pl then false else
 decide ((aZ f.row x).2.2=((bk (·.2) g x).length:Int))&&(decide ((bk (·.2) g x).length=0)||qt f.row x (aZ f.row x).1.toNat (aZ f.row x).2.1.toNat)
theorem zD {f:Edge→Int} {g:Gr} {x:Int} :(bk f g x).length≤g.es.length:=by
 unfold bk
 split
 ·exact dH
 ·simp
theorem nJ (g:Gr) (hm:aO g=true) (f:Fr) (x:Int) (hr:f.row.length≤1000000) (gM:f.pl.length≤1000000):Spec Tryz.prog 112 (Args [.d (fL g f),eN x]) [] (eB (gm g f x)) []:=by
 have hp:f.pl.length≤9223372036854775807:=by omega
 have hn:=aT hm
 unfold fL
 by_cases hx:x<0∨g.n≤x∨x∈f.pl
 ·have hR:gm g f x=false:=if_pos hx
  (refine Spec.intro (C:=T.cfg [] []) (rs:= [.t 4]) (T.aj _ _) Tryz.func112 rfl rfl Tryz.ntmps112 Tryz.results112 (by simp [AObj.isNest]) (by simp [AObj.isNest]) (by kernel_rfl) ?_;intro X hX hP hC aL aM vals hA;refine ⟨_,by simp,hA, ?_⟩;have af:X.P.follows .mixedOrders=true:=(by rw [hP];exact T.mixed);clear aL aM)
  by_cases h1:x<0
  ·have au:decide (x<0)=true:=decide_eq_true h1
   repeat' (first|((first|((with_reducible (first|apply oA|apply oB));exact rfl;intro K hK)|(refine hK _ ?_;clear hK K)|((with_reducible (first|apply oG|apply oH));iterate 3 exact rfl)|((with_reducible apply oI);(iterate 2 exact rfl);intro K hK)|(with_reducible (first|apply wI|apply wJ|apply wK)));try simp only [go_sem,simprocAttr,ag,hR,au])|(with_reducible (first|apply oC|apply oJ|exact oK|apply wA|apply wB|apply wC hX hC|apply wD hX hC|apply wE hX hC af|apply wF hX hC af|apply wG|apply wH|apply And.intro))|((with_reducible refine oD ?_ ?_);kernel_rfl)|((with_reducible (first|apply oE|apply oF));(iterate 3 exact rfl);all_goals (intro h;first|(exact absurd h (by decide))|((try simp only [go_sem,simprocAttr,ag,hR,au] at h);(try with_reducible intro K hK);simp only [go_sem,simprocAttr,ag,hR,au])))|((first|((with_reducible apply wL);exact rfl)|((with_reducible apply wM);exact rfl));all_goals (try ((with_reducible intro h);first|(exact absurd h (by decide))|(try simp only [go_sem,simprocAttr,ag,hR,au] at h))))|omega|((first|refine aa hX hC hP (iN g hm x) rfl rfl rfl (by simp only [go_sem,simprocAttr,ag,hR,au]) rfl ?_|refine aa hX hC hP (bh f.pl x hp) rfl rfl rfl (by simp only [go_sem,simprocAttr,ag,hR,au]) rfl ?_|refine aa hX hC hP (er [vw g,sI f.pl] f.row x hr) rfl rfl rfl (by simp only [go_sem,simprocAttr,ag,hR,au]) rfl ?_|refine aa hX hC hP (gl [vw g,sI f.pl] f.row x a b hab j7 hr) rfl rfl rfl (by simp only [go_sem,simprocAttr,ag,hR,au]) rfl ?_);try simp only [go_sem,simprocAttr,ag,hR,au])|(intro h))
  have au:decide (x<0)=false:=decide_eq_false h1
  by_cases h2:g.n≤x
  ·have ak:decide (g.n≤x)=true:=decide_eq_true h2
   repeat' (first|((first|((with_reducible (first|apply oA|apply oB));exact rfl;intro K hK)|(refine hK _ ?_;clear hK K)|((with_reducible (first|apply oG|apply oH));iterate 3 exact rfl)|((with_reducible apply oI);(iterate 2 exact rfl);intro K hK)|(with_reducible (first|apply wI|apply wJ|apply wK)));try simp only [go_sem,simprocAttr,ag,hR,au,ak])|(with_reducible (first|apply oC|apply oJ|exact oK|apply wA|apply wB|apply wC hX hC|apply wD hX hC|apply wE hX hC af|apply wF hX hC af|apply wG|apply wH|apply And.intro))|((with_reducible refine oD ?_ ?_);kernel_rfl)|((with_reducible (first|apply oE|apply oF));(iterate 3 exact rfl);all_goals (intro h;first|(exact absurd h (by decide))|((try simp only [go_sem,simprocAttr,ag,hR,au,ak] at h);(try with_reducible intro K hK);simp only [go_sem,simprocAttr,ag,hR,au,ak])))|((first|((with_reducible apply wL);exact rfl)|((with_reducible apply wM);exact rfl));all_goals (try ((with_reducible intro h);first|(exact absurd h (by decide))|(try simp only [go_sem,simprocAttr,ag,hR,au,ak] at h))))|omega|((first|refine aa hX hC hP (iN g hm x) rfl rfl rfl (by simp only [go_sem,simprocAttr,ag,hR,au,ak]) rfl ?_|refine aa hX hC hP (bh f.pl x hp) rfl rfl rfl (by simp only [go_sem,simprocAttr,ag,hR,au,ak]) rfl ?_|refine aa hX hC hP (er [vw g,sI f.pl] f.row x hr) rfl rfl rfl (by simp only [go_sem,simprocAttr,ag,hR,au,ak]) rfl ?_|refine aa hX hC hP (gl [vw g,sI f.pl] f.row x a b hab j7 hr) rfl rfl rfl (by simp only [go_sem,simprocAttr,ag,hR,au,ak]) rfl ?_);try simp only [go_sem,simprocAttr,ag,hR,au,ak])|(intro h))
  have ak:decide (g.n≤x)=false:=decide_eq_false h2
  have h3:x∈f.pl:=by rcases hx with h|h|h;exact absurd h h1;exact absurd h h2;exact h
  have cQ:decide (x∈f.pl)=true:=decide_eq_true h3
  repeat' (first|((first|((with_reducible (first|apply oA|apply oB));exact rfl;intro K hK)|(refine hK _ ?_;clear hK K)|((with_reducible (first|apply oG|apply oH));iterate 3 exact rfl)|((with_reducible apply oI);(iterate 2 exact rfl);intro K hK)|(with_reducible (first|apply wI|apply wJ|apply wK)));try simp only [go_sem,simprocAttr,ag,hR,au,ak,cQ])|(with_reducible (first|apply oC|apply oJ|exact oK|apply wA|apply wB|apply wC hX hC|apply wD hX hC|apply wE hX hC af|apply wF hX hC af|apply wG|apply wH|apply And.intro))|((with_reducible refine oD ?_ ?_);kernel_rfl)|((with_reducible (first|apply oE|apply oF));(iterate 3 exact rfl);all_goals (intro h;first|(exact absurd h (by decide))|((try simp only [go_sem,simprocAttr,ag,hR,au,ak,cQ] at h);(try with_reducible intro K hK);simp only [go_sem,simprocAttr,ag,hR,au,ak,cQ])))|((first|((with_reducible apply wL);exact rfl)|((with_reducible apply wM);exact rfl));all_goals (try ((with_reducible intro h);first|(exact absurd h (by decide))|(try simp only [go_sem,simprocAttr,ag,hR,au,ak,cQ] at h))))|omega|((first|refine aa hX hC hP (iN g hm x) rfl rfl rfl (by simp only [go_sem,simprocAttr,ag,hR,au,ak,cQ]) rfl ?_|refine aa hX hC hP (bh f.pl x hp) rfl rfl rfl (by simp only [go_sem,simprocAttr,ag,hR,au,ak,cQ]) rfl ?_|refine aa hX hC hP (er [vw g,sI f.pl] f.row x hr) rfl rfl rfl (by simp only [go_sem,simprocAttr,ag,hR,au,ak,cQ]) rfl ?_|refine aa hX hC hP (gl [vw g,sI f.pl] f.row x a b hab j7 hr) rfl rfl rfl (by simp only [go_sem,simprocAttr,ag,hR,au,ak,cQ]) rfl ?_);try simp only [go_sem,simprocAttr,ag,hR,au,ak,cQ])|(intro h))
 ·have au:decide (x<0)=false:=decide_eq_false fun h=>hx (.inl h)
  have ak:decide (g.n≤x)=false:=decide_eq_false fun h=>hx (.inr (.inl h))
  have cQ:decide (x∈f.pl)=false:=decide_eq_false fun h=>hx (.inr (.inr h))
  have hR:gm g f x=(decide ((aZ f.row x).2.2=((bk (·.2) g x).length:Int))&&(decide ((bk (·.2) g x).length=0)||qt f.row x (aZ f.row x).1.toNat (aZ f.row x).2.1.toNat)):=if_neg hx
  by_cases h4:(aZ f.row x).2.2=((bk (·.2) g x).length:Int)
  ·have hb4:decide ((aZ f.row x).2.2=((bk (·.2) g x).length:Int))=true:=decide_eq_true h4
   by_cases h5:(bk (·.2) g x).length=0
   ·have wo:decide (((bk (·.2) g x).length:Int)=0)=true:=decide_eq_true (by omega)
    rw [hb4,decide_eq_true h5] at hR
    (refine Spec.intro (C:=T.cfg [] []) (rs:= [.t 4]) (T.aj _ _) Tryz.func112 rfl rfl Tryz.ntmps112 Tryz.results112 (by simp [AObj.isNest]) (by simp [AObj.isNest]) (by kernel_rfl) ?_;intro X hX hP hC aL aM vals hA;refine ⟨_,by simp,hA, ?_⟩;have af:X.P.follows .mixedOrders=true:=(by rw [hP];exact T.mixed);clear aL aM)
    repeat' (first|((first|((with_reducible (first|apply oA|apply oB));exact rfl;intro K hK)|(refine hK _ ?_;clear hK K)|((with_reducible (first|apply oG|apply oH));iterate 3 exact rfl)|((with_reducible apply oI);(iterate 2 exact rfl);intro K hK)|(with_reducible (first|apply wI|apply wJ|apply wK)));try simp only [go_sem,simprocAttr,ag,hR,au,ak,cQ,hb4,wo])|(with_reducible (first|apply oC|apply oJ|exact oK|apply wA|apply wB|apply wC hX hC|apply wD hX hC|apply wE hX hC af|apply wF hX hC af|apply wG|apply wH|apply And.intro))|((with_reducible refine oD ?_ ?_);kernel_rfl)|((with_reducible (first|apply oE|apply oF));(iterate 3 exact rfl);all_goals (intro h;first|(exact absurd h (by decide))|((try simp only [go_sem,simprocAttr,ag,hR,au,ak,cQ,hb4,wo] at h);(try with_reducible intro K hK);simp only [go_sem,simprocAttr,ag,hR,au,ak,cQ,hb4,wo])))|((first|((with_reducible apply wL);exact rfl)|((with_reducible apply wM);exact rfl));all_goals (try ((with_reducible intro h);first|(exact absurd h (by decide))|(try simp only [go_sem,simprocAttr,ag,hR,au,ak,cQ,hb4,wo] at h))))|omega|((first|refine aa hX hC hP (iN g hm x) rfl rfl rfl (by simp only [go_sem,simprocAttr,ag,hR,au,ak,cQ,hb4,wo]) rfl ?_|refine aa hX hC hP (bh f.pl x hp) rfl rfl rfl (by simp only [go_sem,simprocAttr,ag,hR,au,ak,cQ,hb4,wo]) rfl ?_|refine aa hX hC hP (er [vw g,sI f.pl] f.row x hr) rfl rfl rfl (by simp only [go_sem,simprocAttr,ag,hR,au,ak,cQ,hb4,wo]) rfl ?_|refine aa hX hC hP (gl [vw g,sI f.pl] f.row x a b hab j7 hr) rfl rfl rfl (by simp only [go_sem,simprocAttr,ag,hR,au,ak,cQ,hb4,wo]) rfl ?_);try simp only [go_sem,simprocAttr,ag,hR,au,ak,cQ,hb4,wo])|(intro h))
   ·have wo:decide (((bk (·.2) g x).length:Int)=0)=false:=decide_eq_false (by omega)
    rcases eL (row:=f.row) (x:=x) f.row.length with ⟨h6,_⟩|⟨a,b,c,h6,hab,j7,_⟩
    ·exfalso
     have:(aZ f.row x).2.2=0:=by unfold aZ;rw [h6]
     omega
    ·have hsp:aZ f.row x=((a:Int),(b:Int),(c:Int)):=h6
     have hab:a≤b:=by omega
     rw [hb4,decide_eq_false h5,hsp] at hR
     simp only [Bool.true_and,Bool.false_or,Int.toNat_natCast] at hR
     rw [hsp] at hb4
     (refine Spec.intro (C:=T.cfg [] []) (rs:= [.t 4]) (T.aj _ _) Tryz.func112 rfl rfl Tryz.ntmps112 Tryz.results112 (by simp [AObj.isNest]) (by simp [AObj.isNest]) (by kernel_rfl) ?_;intro X hX hP hC aL aM vals hA;refine ⟨_,by simp,hA, ?_⟩;have af:X.P.follows .mixedOrders=true:=(by rw [hP];exact T.mixed);clear aL aM)
     repeat' (first|((first|((with_reducible (first|apply oA|apply oB));exact rfl;intro K hK)|(refine hK _ ?_;clear hK K)|((with_reducible (first|apply oG|apply oH));iterate 3 exact rfl)|((with_reducible apply oI);(iterate 2 exact rfl);intro K hK)|(with_reducible (first|apply wI|apply wJ|apply wK)));try simp only [go_sem,simprocAttr,ag,hR,au,ak,cQ,hb4,wo,hsp])|(with_reducible (first|apply oC|apply oJ|exact oK|apply wA|apply wB|apply wC hX hC|apply wD hX hC|apply wE hX hC af|apply wF hX hC af|apply wG|apply wH|apply And.intro))|((with_reducible refine oD ?_ ?_);kernel_rfl)|((with_reducible (first|apply oE|apply oF));(iterate 3 exact rfl);all_goals (intro h;first|(exact absurd h (by decide))|((try simp only [go_sem,simprocAttr,ag,hR,au,ak,cQ,hb4,wo,hsp] at h);(try with_reducible intro K hK);simp only [go_sem,simprocAttr,ag,hR,au,ak,cQ,hb4,wo,hsp])))|((first|((with_reducible apply wL);exact rfl)|((with_reducible apply wM);exact rfl));all_goals (try ((with_reducible intro h);first|(exact absurd h (by decide))|(try simp only [go_sem,simprocAttr,ag,hR,au,ak,cQ,hb4,wo,hsp] at h))))|omega|((first|refine aa hX hC hP (iN g hm x) rfl rfl rfl (by simp only [go_sem,simprocAttr,ag,hR,au,ak,cQ,hb4,wo,hsp]) rfl ?_|refine aa hX hC hP (bh f.pl x hp) rfl rfl rfl (by simp only [go_sem,simprocAttr,ag,hR,au,ak,cQ,hb4,wo,hsp]) rfl ?_|refine aa hX hC hP (er [vw g,sI f.pl] f.row x hr) rfl rfl rfl (by simp only [go_sem,simprocAttr,ag,hR,au,ak,cQ,hb4,wo,hsp]) rfl ?_|refine aa hX hC hP (gl [vw g,sI f.pl] f.row x a b hab j7 hr) rfl rfl rfl (by simp only [go_sem,simprocAttr,ag,hR,au,ak,cQ,hb4,wo,hsp]) rfl ?_);try simp only [go_sem,simprocAttr,ag,hR,au,ak,cQ,hb4,wo,hsp])|(intro h))
  ·have hb4:decide ((aZ f.row x).2.2=((bk (·.2) g x).length:Int))=false:=decide_eq_false h4
   rw [hb4,Bool.false_and] at hR
   (refine Spec.intro (C:=T.cfg [] []) (rs:= [.t 4]) (T.aj _ _) Tryz.func112 rfl rfl Tryz.ntmps112 Tryz.results112 (by simp [AObj.isNest]) (by simp [AObj.isNest]) (by kernel_rfl) ?_;intro X hX hP hC aL aM vals hA;refine ⟨_,by simp,hA, ?_⟩;have af:X.P.follows .mixedOrders=true:=(by rw [hP];exact T.mixed);clear aL aM)
   repeat' (first|((first|((with_reducible (first|apply oA|apply oB));exact rfl;intro K hK)|(refine hK _ ?_;clear hK K)|((with_reducible (first|apply oG|apply oH));iterate 3 exact rfl)|((with_reducible apply oI);(iterate 2 exact rfl);intro K hK)|(with_reducible (first|apply wI|apply wJ|apply wK)));try simp only [go_sem,simprocAttr,ag,hR,au,ak,cQ,hb4])|(with_reducible (first|apply oC|apply oJ|exact oK|apply wA|apply wB|apply wC hX hC|apply wD hX hC|apply wE hX hC af|apply wF hX hC af|apply wG|apply wH|apply And.intro))|((with_reducible refine oD ?_ ?_);kernel_rfl)|((with_reducible (first|apply oE|apply oF));(iterate 3 exact rfl);all_goals (intro h;first|(exact absurd h (by decide))|((try simp only [go_sem,simprocAttr,ag,hR,au,ak,cQ,hb4] at h);(try with_reducible intro K hK);simp only [go_sem,simprocAttr,ag,hR,au,ak,cQ,hb4])))|((first|((with_reducible apply wL);exact rfl)|((with_reducible apply wM);exact rfl));all_goals (try ((with_reducible intro h);first|(exact absurd h (by decide))|(try simp only [go_sem,simprocAttr,ag,hR,au,ak,cQ,hb4] at h))))|omega|((first|refine aa hX hC hP (iN g hm x) rfl rfl rfl (by simp only [go_sem,simprocAttr,ag,hR,au,ak,cQ,hb4]) rfl ?_|refine aa hX hC hP (bh f.pl x hp) rfl rfl rfl (by simp only [go_sem,simprocAttr,ag,hR,au,ak,cQ,hb4]) rfl ?_|refine aa hX hC hP (er [vw g,sI f.pl] f.row x hr) rfl rfl rfl (by simp only [go_sem,simprocAttr,ag,hR,au,ak,cQ,hb4]) rfl ?_|refine aa hX hC hP (gl [vw g,sI f.pl] f.row x a b hab j7 hr) rfl rfl rfl (by simp only [go_sem,simprocAttr,ag,hR,au,ak,cQ,hb4]) rfl ?_);try simp only [go_sem,simprocAttr,ag,hR,au,ak,cQ,hb4])|(intro h))
theorem BJ (ds:List D) (row:List It) (hr:row.length≤1000000):Spec Tryz.prog 87 (Args [.d (.pt (sT row::ds))]) [] (.ref 10000) [(10000, .tip 96 3 (row.map rT))]:=by
 (refine Spec.dK (C:=T.cfg [] []) (rs:= [.t 2]) [(10000,7)] (T.aj _ _) Tryz.func87 rfl rfl Tryz.ntmps87 Tryz.results87 (by simp [AObj.isNest]) (by simp [AObj.isNest]) (by first|(simp [look];done)|(simp [asN];done)|(intro l hl;simp only [asN];repeat (rw [if_neg (fun e=>by subst e;simp [look] at hl)]))) (by first|(simp [look];done)|(simp [asN];done)|(intro l hl;simp only [asN];repeat (rw [if_neg (fun e=>by subst e;simp [look] at hl)]))) (by kernel_rfl) ?_;intro X hX hP hC aL aM vals hA;refine ⟨_,by simp,hA, ?_⟩;have af:X.P.follows .mixedOrders=true:=(by rw [hP];exact T.mixed);clear aL aM)
 repeat' (first|((first|((with_reducible (first|apply oA|apply oB));exact rfl;intro K hK)|(refine hK _ ?_;clear hK K)|((with_reducible (first|apply oG|apply oH));iterate 3 exact rfl)|((with_reducible apply oI);(iterate 2 exact rfl);intro K hK)|(with_reducible (first|apply wI|apply wJ|apply wK)));try simp only [go_sem,simprocAttr])|(with_reducible (first|apply oC|apply oJ|exact oK|apply wA|apply wB|apply wC hX hC|apply wD hX hC|apply wE hX hC af|apply wF hX hC af|apply wG|apply wH|apply And.intro))|((with_reducible refine oD ?_ ?_);kernel_rfl)|((with_reducible (first|apply oE|apply oF));(iterate 3 exact rfl);all_goals (intro h;first|(exact absurd h (by decide))|((try simp only [go_sem,simprocAttr] at h);(try with_reducible intro K hK);simp only [go_sem,simprocAttr])))|((first|((with_reducible apply wL);exact rfl)|((with_reducible apply wM);exact rfl));all_goals (try ((with_reducible intro h);first|(exact absurd h (by decide))|(try simp only [go_sem,simprocAttr] at h))))|omega|((first|(refine az hX hC hP [(10000,7)] (qs row hr) rfl rfl rfl ?_ ?_ ?_ ?_ ?_ ?_ ?_ ?_ ?_ ?_ ?_ ?_ ?_ ?_;(focus (simp only [go_sem,simprocAttr];done));(iterate 12 (focus (simp [go_sem,simprocAttr];done)));simp only [go_sem,simprocAttr,List.map_cons,List.map_nil]));try simp only [go_sem,simprocAttr])|(intro h))
end Go.Ab
end
section
namespace Go.Ab
open Go.Proofs
attribute [local congr] ACall.congr
set_option maxRecDepth 10000
set_option maxHeartbeats 2000000
theorem cr (l:List Int):Spec Tryz.prog 110 (Args [.d (sI l)]) [] (.fn 137 [] [.ptr 10000 0]) [(10000, .box [.d (sI l)])]:=by
 (refine Spec.dK (C:=T.cfg [] []) (rs:= [.t 2]) [(10000,1)] (T.aj _ _) Tryz.func110 rfl rfl Tryz.ntmps110 Tryz.results110 (by simp [AObj.isNest]) (by simp [AObj.isNest]) (by first|(simp [look];done)|(simp [asN];done)|(intro l hl;simp only [asN];repeat (rw [if_neg (fun e=>by subst e;simp [look] at hl)]))) (by first|(simp [look];done)|(simp [asN];done)|(intro l hl;simp only [asN];repeat (rw [if_neg (fun e=>by subst e;simp [look] at hl)]))) (by kernel_rfl) ?_;intro X hX hP hC aL aM vals hA;refine ⟨_,by simp,hA, ?_⟩;have af:X.P.follows .mixedOrders=true:=(by rw [hP];exact T.mixed);clear aL aM)
 repeat' (first|((first|((with_reducible (first|apply oA|apply oB));exact rfl;intro K hK)|(refine hK _ ?_;clear hK K)|((with_reducible (first|apply oG|apply oH));iterate 3 exact rfl)|((with_reducible apply oI);(iterate 2 exact rfl);intro K hK)|(with_reducible (first|apply wI|apply wJ|apply wK)));try simp only [go_sem,simprocAttr])|(with_reducible (first|apply oC|apply oJ|exact oK|apply wA|apply wB|apply wC hX hC|apply wD hX hC|apply wE hX hC af|apply wF hX hC af|apply wG|apply wH|apply And.intro))|((with_reducible refine oD ?_ ?_);kernel_rfl)|((with_reducible (first|apply oE|apply oF));(iterate 3 exact rfl);all_goals (intro h;first|(exact absurd h (by decide))|((try simp only [go_sem,simprocAttr] at h);(try with_reducible intro K hK);simp only [go_sem,simprocAttr])))|((first|((with_reducible apply wL);exact rfl)|((with_reducible apply wM);exact rfl));all_goals (try ((with_reducible intro h);first|(exact absurd h (by decide))|(try simp only [go_sem,simprocAttr] at h))))|omega|(intro h))
theorem fz (xs ys:List Int) (hlen:xs.length≤9223372036854775807):Spec Tryz.prog 111 (Args [.d (sI xs), .d (sI ys)]) [] (eB (decide (xs=ys))) []:=by
 (refine Spec.intro (C:=T.cfg [] []) (rs:= [.t 4]) (T.aj _ _) Tryz.func111 rfl rfl Tryz.ntmps111 Tryz.results111 (by simp [AObj.isNest]) (by simp [AObj.isNest]) (by kernel_rfl) ?_;intro X hX hP hC aL aM vals hA;refine ⟨_,by simp,hA, ?_⟩;have af:X.P.follows .mixedOrders=true:=(by rw [hP];exact T.mixed);clear aL aM)
 repeat' (first|((first|((with_reducible (first|apply oA|apply oB));exact rfl;intro K hK)|(refine hK _ ?_;clear hK K)|((with_reducible (first|apply oG|apply oH));iterate 3 exact rfl)|((with_reducible apply oI);(iterate 2 exact rfl);intro K hK)|(with_reducible (first|apply wI|apply wJ|apply wK)));try simp only [go_sem,simprocAttr])|(with_reducible (first|apply oC|apply oJ|exact oK|apply wA|apply wB|apply wC hX hC|apply wD hX hC|apply wE hX hC af|apply wF hX hC af|apply wG|apply wH|apply And.intro))|((with_reducible refine oD ?_ ?_);kernel_rfl)|((with_reducible (first|apply oE|apply oF));(iterate 3 exact rfl);all_goals (intro h;first|(exact absurd h (by decide))|((try simp only [go_sem,simprocAttr] at h);(try with_reducible intro K hK);simp only [go_sem,simprocAttr])))|((first|((with_reducible apply wL);exact rfl)|((with_reducible apply wM);exact rfl));all_goals (try ((with_reducible intro h);first|(exact absurd h (by decide))|(try simp only [go_sem,simprocAttr] at h))))|omega|(intro h))
 ·have:xs≠ys:=fun e=>h (by rw [e])
  simp [this]
 refine ah (fun k:Nat=>k≤xs.length∧xs.take k=ys.take k) (fun k=>⟨[(0, .d (sI xs)),(1, .d (sI ys)),(12,eN xs.length),(13,eN k)], []⟩) (fun k=>xs.length - k) 0 (by simp) ?_ ?_
 ·(refine ⟨b7 ?_,fun _ _ h=>h⟩;simp [go_sem,simprocAttr])
 rintro k ⟨hk,hp⟩
 have A7:xs.length=ys.length:=by omega
 repeat' (first|((first|((with_reducible (first|apply oA|apply oB));exact rfl;intro K hK)|(refine hK _ ?_;clear hK K)|((with_reducible (first|apply oG|apply oH));iterate 3 exact rfl)|((with_reducible apply oI);(iterate 2 exact rfl);intro K hK)|(with_reducible (first|apply wI|apply wJ|apply wK)));try simp only [go_sem,simprocAttr])|(with_reducible (first|apply oC|apply oJ|exact oK|apply wA|apply wB|apply wC hX hC|apply wD hX hC|apply wE hX hC af|apply wF hX hC af|apply wG|apply wH|apply And.intro))|((with_reducible refine oD ?_ ?_);kernel_rfl)|((with_reducible (first|apply oE|apply oF));(iterate 3 exact rfl);all_goals (intro h;first|(exact absurd h (by decide))|((try simp only [go_sem,simprocAttr] at h);(try with_reducible intro K hK);simp only [go_sem,simprocAttr])))|((first|((with_reducible apply wL);exact rfl)|((with_reducible apply wM);exact rfl));all_goals (try ((with_reducible intro h);first|(exact absurd h (by decide))|(try simp only [go_sem,simprocAttr] at h))))|omega|(intro h))
 ·have:xs≠ys:=fun e=>h (by rw [e])
  simp [this]
 ·refine ⟨k+1,⟨by omega,uD 0 (by omega) (by omega) hp h⟩, ?_,by omega⟩
  (refine ⟨b7 ?_,fun _ _ h=>h⟩;simp [go_sem,simprocAttr])
 ·have:k=xs.length:=by omega
  subst this
  rw [List.take_of_length_le (Nat.le_refl _),List.take_of_length_le (by omega)] at hp
  simp [hp]
def je (g:Gr) (x:Int) (i:Int):It:=(i,x,(g.es.getD i.toNat (0,0)).2)
def aX (g:Gr) (x:Int) (outs:List Int):List It:=if outs= [] then [(-1,x, -1)] else outs.map (je g x)
theorem nK {α β:Type} {f:α→β} {l:List α} {d:α} {k:Nat} (h:k<l.length):(l.take (k+1)).map f=(l.take k).map f++ [f (l.getD k d)]:=by
 rw [List.take_add_one,List.map_append,List.getElem?_eq_getElem h,List.getD_eq_getElem?_getD,List.getElem?_eq_getElem h]
 rfl
theorem zF (g:Gr) (f:Fr) (x:Int) (outs:List Int) (hl:outs.length≤1000000) (ho:∀i∈outs,0≤i∧i<g.es.length):Spec Tryz.prog 115 (Args [.d (fL g f),eN x, .d (sI outs)]) [] (.ref 10000) [(10000, .tip 96 3 ((aX g x outs).map rT))]:=by
 unfold fL
 by_cases h0:outs= []
 ·subst h0
  have hA:aX g x []= [(-1,x, -1)]:=if_pos rfl
  rw [hA]
  (refine Spec.dK (C:=T.cfg [] []) (rs:= [.t 6]) [(10000,14)] (T.aj _ _) Tryz.func115 rfl rfl Tryz.ntmps115 Tryz.results115 (by simp [AObj.isNest]) (by simp [AObj.isNest]) (by first|(simp [look];done)|(simp [asN];done)|(intro l hl;simp only [asN];repeat (rw [if_neg (fun e=>by subst e;simp [look] at hl)]))) (by first|(simp [look];done)|(simp [asN];done)|(intro l hl;simp only [asN];repeat (rw [if_neg (fun e=>by subst e;simp [look] at hl)]))) (by kernel_rfl) ?_;intro X hX hP hC aL aM vals hA;refine ⟨_,by simp,hA, ?_⟩;have af:X.P.follows .mixedOrders=true:=(by rw [hP];exact T.mixed);clear aL aM)
  repeat' (first|((first|((with_reducible (first|apply oA|apply oB));exact rfl;intro K hK)|(refine hK _ ?_;clear hK K)|((with_reducible (first|apply oG|apply oH));iterate 3 exact rfl)|((with_reducible apply oI);(iterate 2 exact rfl);intro K hK)|(with_reducible (first|apply wI|apply wJ|apply wK)));try simp only [go_sem,simprocAttr,ag])|(with_reducible (first|apply oC|apply oJ|exact oK|apply wA|apply wB|apply wC hX hC|apply wD hX hC|apply wE hX hC af|apply wF hX hC af|apply wG|apply wH|apply And.intro))|((with_reducible refine oD ?_ ?_);kernel_rfl)|((with_reducible (first|apply oE|apply oF));(iterate 3 exact rfl);all_goals (intro h;first|(exact absurd h (by decide))|((try simp only [go_sem,simprocAttr,ag] at h);(try with_reducible intro K hK);simp only [go_sem,simprocAttr,ag])))|((first|((with_reducible apply wL);exact rfl)|((with_reducible apply wM);exact rfl));all_goals (try ((with_reducible intro h);first|(exact absurd h (by decide))|(try simp only [go_sem,simprocAttr,ag] at h))))|omega|(intro h))
 ·have hA:aX g x outs=outs.map (je g x):=if_neg h0
  rw [hA]
  have hb0:decide ((outs.length:Int)=0)=false:=decide_eq_false fun h=>h0 (List.eq_nil_of_length_eq_zero (by omega))
  (refine Spec.dK (C:=T.cfg [] []) (rs:= [.t 6]) [(10000,38)] (T.aj _ _) Tryz.func115 rfl rfl Tryz.ntmps115 Tryz.results115 (by simp [AObj.isNest]) (by simp [AObj.isNest]) (by first|(simp [look];done)|(simp [asN];done)|(intro l hl;simp only [asN];repeat (rw [if_neg (fun e=>by subst e;simp [look] at hl)]))) (by first|(simp [look];done)|(simp [asN];done)|(intro l hl;simp only [asN];repeat (rw [if_neg (fun e=>by subst e;simp [look] at hl)]))) (by kernel_rfl) ?_;intro X hX hP hC aL aM vals hA;refine ⟨_,by simp,hA, ?_⟩;have af:X.P.follows .mixedOrders=true:=(by rw [hP];exact T.mixed);clear aL aM)
  repeat' (first|((first|((with_reducible (first|apply oA|apply oB));exact rfl;intro K hK)|(refine hK _ ?_;clear hK K)|((with_reducible (first|apply oG|apply oH));iterate 3 exact rfl)|((with_reducible apply oI);(iterate 2 exact rfl);intro K hK)|(with_reducible (first|apply wI|apply wJ|apply wK)));try simp only [go_sem,simprocAttr,ag,hb0])|(with_reducible (first|apply oC|apply oJ|exact oK|apply wA|apply wB|apply wC hX hC|apply wD hX hC|apply wE hX hC af|apply wF hX hC af|apply wG|apply wH|apply And.intro))|((with_reducible refine oD ?_ ?_);kernel_rfl)|((with_reducible (first|apply oE|apply oF));(iterate 3 exact rfl);all_goals (intro h;first|(exact absurd h (by decide))|((try simp only [go_sem,simprocAttr,ag,hb0] at h);(try with_reducible intro K hK);simp only [go_sem,simprocAttr,ag,hb0])))|((first|((with_reducible apply wL);exact rfl)|((with_reducible apply wM);exact rfl));all_goals (try ((with_reducible intro h);first|(exact absurd h (by decide))|(try simp only [go_sem,simprocAttr,ag,hb0] at h))))|omega|(intro h))
  (refine ja hX 6 38 (.tip 96 3 []) (by simp only [go_sem,simprocAttr,ag,hb0]) (by simp only [go_sem,simprocAttr,ag,hb0]) (by decide) ⟨96,3,by decide, .inr rfl⟩ ?_;simp only [go_sem,simprocAttr,ag,hb0])
  refine ah (fun k:Nat=>k≤outs.length) (fun k=>⟨[(0, .d (fL g f)),(1,eN x),(15, .d (sI outs)),(16,eN outs.length),(17,eN k),(6, .ref 38)], [(38, .tip 96 3 (((outs.take k).map (je g x)).map rT))]⟩) (fun k=>outs.length - k) 0 (by omega) ?_ ?_
  ·refine Le.of ?_ ?_<;>simp [go_sem,simprocAttr,ag,hb0,fL]
  unfold fL
  rintro k hk
  rcases Nat.lt_or_ge k outs.length with hlt|hge
  ·have hb:decide ((k:Int)<(outs.length:Int))=true:=decide_eq_true (by omega)
   have eV:=nK (f:=je g x) (d:=0) hlt
   have KX:=ho _ (aW (d:=0) hlt)
   have hlk:(outs.take k).length=k:=by simp;omega
   repeat' (first|((first|((with_reducible (first|apply oA|apply oB));exact rfl;intro K hK)|(refine hK _ ?_;clear hK K)|((with_reducible (first|apply oG|apply oH));iterate 3 exact rfl)|((with_reducible apply oI);(iterate 2 exact rfl);intro K hK)|(with_reducible (first|apply wI|apply wJ|apply wK)));try simp only [go_sem,simprocAttr,ag,hb,hlk])|(with_reducible (first|apply oC|apply oJ|exact oK|apply wA|apply wB|apply wC hX hC|apply wD hX hC|apply wE hX hC af|apply wF hX hC af|apply wG|apply wH|apply And.intro))|((with_reducible refine oD ?_ ?_);kernel_rfl)|((with_reducible (first|apply oE|apply oF));(iterate 3 exact rfl);all_goals (intro h;first|(exact absurd h (by decide))|((try simp only [go_sem,simprocAttr,ag,hb,hlk] at h);(try with_reducible intro K hK);simp only [go_sem,simprocAttr,ag,hb,hlk])))|((first|((with_reducible apply wL);exact rfl)|((with_reducible apply wM);exact rfl));all_goals (try ((with_reducible intro h);first|(exact absurd h (by decide))|(try simp only [go_sem,simprocAttr,ag,hb,hlk] at h))))|omega|(intro h))
   refine ⟨k+1,by omega, ?_,by omega⟩
   refine Le.of ?_ ?_<;>simp [go_sem,simprocAttr,ag,hb,hlk,eV,je]
  ·have hb:decide ((k:Int)<(outs.length:Int))=false:=decide_eq_false (by omega)
   obtain rfl:k=outs.length:=by omega
   have ht:outs.take outs.length=outs:=List.take_of_length_le (by omega)
   repeat' (first|((first|((with_reducible (first|apply oA|apply oB));exact rfl;intro K hK)|(refine hK _ ?_;clear hK K)|((with_reducible (first|apply oG|apply oH));iterate 3 exact rfl)|((with_reducible apply oI);(iterate 2 exact rfl);intro K hK)|(with_reducible (first|apply wI|apply wJ|apply wK)));try simp only [go_sem,simprocAttr,ag,hb,ht])|(with_reducible (first|apply oC|apply oJ|exact oK|apply wA|apply wB|apply wC hX hC|apply wD hX hC|apply wE hX hC af|apply wF hX hC af|apply wG|apply wH|apply And.intro))|((with_reducible refine oD ?_ ?_);kernel_rfl)|((with_reducible (first|apply oE|apply oF));(iterate 3 exact rfl);all_goals (intro h;first|(exact absurd h (by decide))|((try simp only [go_sem,simprocAttr,ag,hb,ht] at h);(try with_reducible intro K hK);simp only [go_sem,simprocAttr,ag,hb,ht])))|((first|((with_reducible apply wL);exact rfl)|((with_reducible apply wM);exact rfl));all_goals (try ((with_reducible intro h);first|(exact absurd h (by decide))|(try simp only [go_sem,simprocAttr,ag,hb,ht] at h))))|omega|(intro h))
def iU (g:Gr) (f:Fr):List (Nat × AObj):= [(10000, .box [.d (sT f.row), .d (vw g), .ref 10001]),(10001, .tip 3 1 (f.pl.map rI))]
theorem wq (row items:List It) (a b:Nat) (h0:0<items.length) (hr:row.length≤400000) (hi:items.length≤100000):Spec Tryz.prog 139 (Args [.d (.sl 1 [[.sl 3 (List.take a (row.map rT))], [.sl 3 (items.map rT)], [.sl 3 (List.drop b (row.map rT))]])]) [] (.d (sT (row.take a++items++row.drop b))) []:=by
 have hf: [row.take a,items,row.drop b].flatten=row.take a++items++row.drop b:=by simp
 have hlen: [row.take a,items,row.drop b].flatten.length=min a row.length+items.length+(row.length - b):=by simp;omega
 have:=wm [row.take a,items,row.drop b] (by simp) (by omega) (by omega)
 rw [hf] at this
 simpa only [vT,List.map_cons,List.map_nil,sT,List.map_take,List.map_drop] using this
theorem BK (g:Gr) (row items:List It) (pl:List Int) (a b:Nat) (hab:a≤b) (hb:b≤row.length) (h0:0<items.length) (hr:row.length≤400000) (hi:items.length≤100000):
 Spec Tryz.prog 114 (Args [.ptr 10000 0,eN a,eN b, .ref 10003]) (iU g ⟨row,pl⟩++ [(10003, .tip 96 3 (items.map rT))]) (.d (sT ((row.take b).drop a))) (iU g ⟨row.take a++items++row.drop b,pl⟩):=by
 have nQ:((row.take b).drop a).length≤1000000:=by simp;omega
 have w6:List.take row.length (row.map rT)=row.map rT:=List.take_of_length_le (by simp)
 unfold iU
 simp only [List.cons_append,List.nil_append]
 (refine Spec.intro (C:=T.cfg [] []) (rs:= [.t 8]) (T.aj _ _) Tryz.func114 rfl rfl Tryz.ntmps114 Tryz.results114 (by simp [AObj.isNest]) (by simp [AObj.isNest]) (by kernel_rfl) ?_;intro X hX hP hC aL aM vals hA;refine ⟨_,by simp,hA, ?_⟩;have af:X.P.follows .mixedOrders=true:=(by rw [hP];exact T.mixed);clear aL aM)
 repeat' (first|((first|((with_reducible (first|apply oA|apply oB));exact rfl;intro K hK)|(refine hK _ ?_;clear hK K)|((with_reducible (first|apply oG|apply oH));iterate 3 exact rfl)|((with_reducible apply oI);(iterate 2 exact rfl);intro K hK)|(with_reducible (first|apply wI|apply wJ|apply wK)));try simp only [go_sem,simprocAttr,List.map_take,List.map_drop,w6])|(with_reducible (first|apply oC|apply oJ|exact oK|apply wA|apply wB|apply wC hX hC|apply wD hX hC|apply wE hX hC af|apply wF hX hC af|apply wG|apply wH|apply And.intro))|((with_reducible refine oD ?_ ?_);kernel_rfl)|((with_reducible (first|apply oE|apply oF));(iterate 3 exact rfl);all_goals (intro h;first|(exact absurd h (by decide))|((try simp only [go_sem,simprocAttr,List.map_take,List.map_drop,w6] at h);(try with_reducible intro K hK);simp only [go_sem,simprocAttr,List.map_take,List.map_drop,w6])))|((first|((with_reducible apply wL);exact rfl)|((with_reducible apply wM);exact rfl));all_goals (try ((with_reducible intro h);first|(exact absurd h (by decide))|(try simp only [go_sem,simprocAttr,List.map_take,List.map_drop,w6] at h))))|omega|((first|(refine az hX hC hP [(10000,17)] (qs ((row.take b).drop a) nQ) rfl rfl rfl ?_ ?_ ?_ ?_ ?_ ?_ ?_ ?_ ?_ ?_ ?_ ?_ ?_ ?_;(focus (simp only [go_sem,simprocAttr,List.map_take,List.map_drop,w6];done));(iterate 12 (focus (simp [go_sem,simprocAttr,List.map_take,List.map_drop,w6];done)));simp only [go_sem,simprocAttr,List.map_take,List.map_drop,w6,List.map_cons,List.map_nil])|(refine aY hX hC hP (wq row items a b h0 hr hi) rfl rfl rfl ?_ ?_ rfl ?_;iterate 2 (focus (simp only [go_sem,simprocAttr,List.map_take,List.map_drop,w6];done))));try simp only [go_sem,simprocAttr,List.map_take,List.map_drop,w6])|(intro h))
end Go.Ab
end
section
namespace Go.Ab
open Go.Proofs
attribute [local congr] ACall.congr
set_option maxRecDepth 10000
set_option maxHeartbeats 4000000
def s5 (g:Gr) (f:Fr):List (Nat × AObj):= [(10000, .box [.d (sT f.row), .d (vw g), .ref 10002]),(10002, .tip 3 1 (f.pl.map rI))]
def jr (g:Gr) (f:Fr) (x:Int) (outs:List Int):(List It × Int) × Fr:=
 if gm g f x=false then (([],3),f) else if gU outs≠bk (·.1) g x then (([],1),f) else
 (((f.row.take (aZ f.row x).2.1.toNat).drop (max (aZ f.row x).1 0).toNat,0),⟨f.row.take (max (aZ f.row x).1 0).toNat++aX g x outs++f.row.drop (aZ f.row x).2.1.toNat,f.pl++ [x]⟩)
theorem eu {f:Edge→Int} {es:List Edge} {k:Nat} {x i:Int} (h:i∈aD f es k x):(0≤i∧i<k)∧f (es.getD i.toNat (0,0))=x:=by
 simp only [aD,List.mem_map,List.mem_filter,List.mem_range,decide_eq_true_eq] at h
 obtain ⟨j,⟨h1,h2⟩,rfl⟩:=h
 exact ⟨⟨Int.natCast_nonneg j,by simp;omega⟩,h2⟩
theorem zG {f:Edge→Int} {g:Gr} {x i:Int} (h:i∈bk f g x):(0≤i∧i<g.es.length)∧f (g.es.getD i.toNat (0,0))=x:=by
 unfold bk at h
 split at h
 ·exact eu h
 ·cases h
theorem ya {l:List Int} {x:Int} :x∈gU l↔x∈l:=by simp [gU]
theorem uP (row:List It) (x:Int):∃a b:Nat,max (aZ row x).1 0=(a:Int)∧(aZ row x).2.1=(b:Int)∧a≤b∧b≤row.length:=by
 rcases eL (row:=row) (x:=x) row.length with ⟨h,_⟩|⟨a,b,c,h,h1,h2,_⟩
 ·exact ⟨0,0,by unfold aZ;rw [h];rfl,by unfold aZ;rw [h];rfl,by omega,by omega⟩
 ·exact ⟨a,b,by unfold aZ;rw [h];simp only;omega,by unfold aZ;rw [h],by omega,by omega⟩
theorem s6 {g:Gr} {x:Int} {outs:List Int} :0<(aX g x outs).length∧(aX g x outs).length≤outs.length+1:=by
 unfold aX
 split
 ·simp
 ·rename_i h
  have:=List.length_pos_iff.2 h
  simp;omega
theorem zH (g:Gr) (hm:aO g=true) (f:Fr) (x:Int) (outs:List Int) (hr:f.row.length≤300000) (hp:f.pl.length≤100000) (ho:outs.length≤17592186043904):
 Spec Tryz.prog 86 (Args [.ptr 10000 0,eN x, .d (sI outs)]) (iU g f) (.tup [.d (sT (jr g f x outs).1.1),eN (jr g f x outs).1.2]) (s5 g (jr g f x outs).2):=by
 have mM:f.row.length≤1000000:=by omega
 have hp1:f.pl.length≤1000000:=by omega
 have hs:(gU outs).length≤9223372036854775807:=by rw [eY];omega
 have hn:=aT hm
 cases hR:gm g f x with
 |false=>
  have hP:jr g f x outs=(([],3),f):=if_pos hR
  rw [hP]
  unfold iU s5
  (refine Spec.dK (C:=T.cfg [] []) (rs:= [.t 6, .t 7]) [(10002,10001)] (T.aj _ _) Tryz.func86 rfl rfl Tryz.ntmps86 Tryz.results86 (by simp [AObj.isNest]) (by simp [AObj.isNest]) (by first|(simp [look];done)|(simp [asN];done)|(intro l hl;simp only [asN];repeat (rw [if_neg (fun e=>by subst e;simp [look] at hl)]))) (by first|(simp [look];done)|(simp [asN];done)|(intro l hl;simp only [asN];repeat (rw [if_neg (fun e=>by subst e;simp [look] at hl)]))) (by kernel_rfl) ?_;intro X hX hP hC aL aM vals hA;refine ⟨_,by simp,hA, ?_⟩;have af:X.P.follows .mixedOrders=true:=(by rw [hP];exact T.mixed);clear aL aM)
  repeat' (first|((first|((with_reducible (first|apply oA|apply oB));exact rfl;intro K hK)|(refine hK _ ?_;clear hK K)|((with_reducible (first|apply oG|apply oH));iterate 3 exact rfl)|((with_reducible apply oI);(iterate 2 exact rfl);intro K hK)|(with_reducible (first|apply wI|apply wJ|apply wK)));try simp only [go_sem,simprocAttr,hR,fL])|(with_reducible (first|apply oC|apply oJ|exact oK|apply wA|apply wB|apply wC hX hC|apply wD hX hC|apply wE hX hC af|apply wF hX hC af|apply wG|apply wH|apply And.intro))|((with_reducible refine oD ?_ ?_);kernel_rfl)|((with_reducible (first|apply oE|apply oF));(iterate 3 exact rfl);all_goals (intro h;first|(exact absurd h (by decide))|((try simp only [go_sem,simprocAttr,hR,fL] at h);(try with_reducible intro K hK);simp only [go_sem,simprocAttr,hR,fL])))|((first|((with_reducible apply wL);exact rfl)|((with_reducible apply wM);exact rfl));all_goals (try ((with_reducible intro h);first|(exact absurd h (by decide))|(try simp only [go_sem,simprocAttr,hR,fL] at h))))|omega|((first|(refine ai hX hC hP (nJ g hm f x mM hp1) rfl rfl rfl ?_ ?_ ?_ ?_;iterate 3 (focus (simp only [go_sem,simprocAttr,hR,fL];done)))|(refine az hX hC hP [(10000,16)] (cr outs) rfl rfl rfl ?_ ?_ ?_ ?_ ?_ ?_ ?_ ?_ ?_ ?_ ?_ ?_ ?_ ?_;(focus (simp only [go_sem,simprocAttr,hR,fL];done));(iterate 12 (focus (simp [go_sem,simprocAttr,hR,fL];done)));simp only [go_sem,simprocAttr,hR,fL,List.map_cons,List.map_nil])|(refine cF hX hC hP [(10000,16)] (bR outs ho) rfl rfl rfl ?_ ?_ ?_ ?_ ?_ ?_ rfl rfl ?_ ?_;(focus (simp only [go_sem,simprocAttr,hR,fL];done));(iterate 6 (focus (simp [go_sem,simprocAttr,hR,fL];done)));simp only [go_sem,simprocAttr,hR,fL,List.map_cons,List.map_nil])|refine aa hX hC hP (iA g hm x) rfl rfl rfl (by simp only [go_sem,simprocAttr,hR,fL]) rfl ?_|refine aa hX hC hP (fz (gU outs) (bk (·.1) g x) hs) rfl rfl rfl (by simp only [go_sem,simprocAttr,hR,fL]) rfl ?_|(refine ai hX hC hP (er [vw g,sI f.pl] f.row x mM) rfl rfl rfl ?_ ?_ ?_ ?_;iterate 3 (focus (simp only [go_sem,simprocAttr,hR,fL];done))));try simp only [go_sem,simprocAttr,hR,fL])|(intro h))
 |true=>
 have K3:¬gm g f x=false:=by rw [hR];simp
 by_cases hE:¬gU outs=bk (·.1) g x
 ·have au:decide (gU outs=bk (·.1) g x)=false:=decide_eq_false hE
  have hP:jr g f x outs=(([],1),f):=by unfold jr;rw [if_neg K3,if_pos hE]
  rw [hP]
  unfold iU s5
  (refine Spec.dK (C:=T.cfg [] []) (rs:= [.t 6, .t 7]) [(10002,10001)] (T.aj _ _) Tryz.func86 rfl rfl Tryz.ntmps86 Tryz.results86 (by simp [AObj.isNest]) (by simp [AObj.isNest]) (by first|(simp [look];done)|(simp [asN];done)|(intro l hl;simp only [asN];repeat (rw [if_neg (fun e=>by subst e;simp [look] at hl)]))) (by first|(simp [look];done)|(simp [asN];done)|(intro l hl;simp only [asN];repeat (rw [if_neg (fun e=>by subst e;simp [look] at hl)]))) (by kernel_rfl) ?_;intro X hX hP hC aL aM vals hA;refine ⟨_,by simp,hA, ?_⟩;have af:X.P.follows .mixedOrders=true:=(by rw [hP];exact T.mixed);clear aL aM)
  repeat' (first|((first|((with_reducible (first|apply oA|apply oB));exact rfl;intro K hK)|(refine hK _ ?_;clear hK K)|((with_reducible (first|apply oG|apply oH));iterate 3 exact rfl)|((with_reducible apply oI);(iterate 2 exact rfl);intro K hK)|(with_reducible (first|apply wI|apply wJ|apply wK)));try simp only [go_sem,simprocAttr,hR,au,fL])|(with_reducible (first|apply oC|apply oJ|exact oK|apply wA|apply wB|apply wC hX hC|apply wD hX hC|apply wE hX hC af|apply wF hX hC af|apply wG|apply wH|apply And.intro))|((with_reducible refine oD ?_ ?_);kernel_rfl)|((with_reducible (first|apply oE|apply oF));(iterate 3 exact rfl);all_goals (intro h;first|(exact absurd h (by decide))|((try simp only [go_sem,simprocAttr,hR,au,fL] at h);(try with_reducible intro K hK);simp only [go_sem,simprocAttr,hR,au,fL])))|((first|((with_reducible apply wL);exact rfl)|((with_reducible apply wM);exact rfl));all_goals (try ((with_reducible intro h);first|(exact absurd h (by decide))|(try simp only [go_sem,simprocAttr,hR,au,fL] at h))))|omega|((first|(refine ai hX hC hP (nJ g hm f x mM hp1) rfl rfl rfl ?_ ?_ ?_ ?_;iterate 3 (focus (simp only [go_sem,simprocAttr,hR,au,fL];done)))|(refine az hX hC hP [(10000,16)] (cr outs) rfl rfl rfl ?_ ?_ ?_ ?_ ?_ ?_ ?_ ?_ ?_ ?_ ?_ ?_ ?_ ?_;(focus (simp only [go_sem,simprocAttr,hR,au,fL];done));(iterate 12 (focus (simp [go_sem,simprocAttr,hR,au,fL];done)));simp only [go_sem,simprocAttr,hR,au,fL,List.map_cons,List.map_nil])|(refine cF hX hC hP [(10000,16)] (bR outs ho) rfl rfl rfl ?_ ?_ ?_ ?_ ?_ ?_ rfl rfl ?_ ?_;(focus (simp only [go_sem,simprocAttr,hR,au,fL];done));(iterate 6 (focus (simp [go_sem,simprocAttr,hR,au,fL];done)));simp only [go_sem,simprocAttr,hR,au,fL,List.map_cons,List.map_nil])|refine aa hX hC hP (iA g hm x) rfl rfl rfl (by simp only [go_sem,simprocAttr,hR,au,fL]) rfl ?_|refine aa hX hC hP (fz (gU outs) (bk (·.1) g x) hs) rfl rfl rfl (by simp only [go_sem,simprocAttr,hR,au,fL]) rfl ?_|(refine ai hX hC hP (er [vw g,sI f.pl] f.row x mM) rfl rfl rfl ?_ ?_ ?_ ?_;iterate 3 (focus (simp only [go_sem,simprocAttr,hR,au,fL];done))));try simp only [go_sem,simprocAttr,hR,au,fL])|(intro h))
 rw [Decidable.not_not] at hE
 have au:decide (gU outs=bk (·.1) g x)=true:=decide_eq_true hE
 have hP:jr g f x outs=(((f.row.take (aZ f.row x).2.1.toNat).drop (max (aZ f.row x).1 0).toNat,0),⟨f.row.take (max (aZ f.row x).1 0).toNat++aX g x outs++f.row.drop (aZ f.row x).2.1.toNat,f.pl++ [x]⟩):=by
  unfold jr;rw [if_neg K3,if_neg (by rw [hE];simp)]
 rw [hP]
 obtain ⟨a,b,ha,hb,hab,j7⟩:=uP f.row x
 rw [ha,hb]
 simp only [Int.toNat_natCast]
 have Ag:outs.length≤128:=by
  have h1:=congrArg List.length hE
  rw [eY] at h1
  have h2:=zD (f:=(·.1)) (g:=g) (x:=x)
  omega
 have HN:∀i∈outs,0≤i∧i<g.es.length:=fun i hi=>(zG (f:=(·.1)) (g:=g) (x:=x) (by rw [← hE];exact ya.2 hi)).1
 obtain ⟨h0,h1⟩:=s6 (g:=g) (x:=x) (outs:=outs)
 have jA:(aX g x outs).length≤100000:=by omega
 have yP:f.row.length≤400000:=by omega
 have Mu:outs.length≤1000000:=by omega
 unfold iU s5
 (refine Spec.dK (C:=T.cfg [] []) (rs:= [.t 6, .t 7]) [(10002,42)] (T.aj _ _) Tryz.func86 rfl rfl Tryz.ntmps86 Tryz.results86 (by simp [AObj.isNest]) (by simp [AObj.isNest]) (by first|(simp [look];done)|(simp [asN];done)|(intro l hl;simp only [asN];repeat (rw [if_neg (fun e=>by subst e;simp [look] at hl)]))) (by first|(simp [look];done)|(simp [asN];done)|(intro l hl;simp only [asN];repeat (rw [if_neg (fun e=>by subst e;simp [look] at hl)]))) (by kernel_rfl) ?_;intro X hX hP hC aL aM vals hA;refine ⟨_,by simp,hA, ?_⟩;have af:X.P.follows .mixedOrders=true:=(by rw [hP];exact T.mixed);clear aL aM)
 repeat' (first|((first|((with_reducible (first|apply oA|apply oB));exact rfl;intro K hK)|(refine hK _ ?_;clear hK K)|((with_reducible (first|apply oG|apply oH));iterate 3 exact rfl)|((with_reducible apply oI);(iterate 2 exact rfl);intro K hK)|(with_reducible (first|apply wI|apply wJ|apply wK)));try simp only [go_sem,simprocAttr,hR,au,ha,hb,fL,List.length_map,List.map_append,List.map_cons,List.map_nil,rI,iU,List.cons_append,List.nil_append,List.map_take,List.map_drop])|(with_reducible (first|apply oC|apply oJ|exact oK|apply wA|apply wB|apply wC hX hC|apply wD hX hC|apply wE hX hC af|apply wF hX hC af|apply wG|apply wH|apply And.intro))|((with_reducible refine oD ?_ ?_);kernel_rfl)|((with_reducible (first|apply oE|apply oF));(iterate 3 exact rfl);all_goals (intro h;first|(exact absurd h (by decide))|((try simp only [go_sem,simprocAttr,hR,au,ha,hb,fL,List.length_map,List.map_append,List.map_cons,List.map_nil,rI,iU,List.cons_append,List.nil_append,List.map_take,List.map_drop] at h);(try with_reducible intro K hK);simp only [go_sem,simprocAttr,hR,au,ha,hb,fL,List.length_map,List.map_append,List.map_cons,List.map_nil,rI,iU,List.cons_append,List.nil_append,List.map_take,List.map_drop])))|((first|((with_reducible apply wL);exact rfl)|((with_reducible apply wM);exact rfl));all_goals (try ((with_reducible intro h);first|(exact absurd h (by decide))|(try simp only [go_sem,simprocAttr,hR,au,ha,hb,fL,List.length_map,List.map_append,List.map_cons,List.map_nil,rI,iU,List.cons_append,List.nil_append,List.map_take,List.map_drop] at h))))|omega|((first|(refine ai hX hC hP (nJ g hm f x mM hp1) rfl rfl rfl ?_ ?_ ?_ ?_;iterate 3 (focus (simp only [go_sem,simprocAttr,hR,au,ha,hb,fL,List.length_map,List.map_append,List.map_cons,List.map_nil,rI,iU,List.cons_append,List.nil_append,List.map_take,List.map_drop];done)))|(refine az hX hC hP [(10000,16)] (cr outs) rfl rfl rfl ?_ ?_ ?_ ?_ ?_ ?_ ?_ ?_ ?_ ?_ ?_ ?_ ?_ ?_;(focus (simp only [go_sem,simprocAttr,hR,au,ha,hb,fL,List.length_map,List.map_append,List.map_cons,List.map_nil,rI,iU,List.cons_append,List.nil_append,List.map_take,List.map_drop];done));(iterate 12 (focus (simp [go_sem,simprocAttr,hR,au,ha,hb,fL,List.length_map,List.map_append,List.map_cons,List.map_nil,rI,iU,List.cons_append,List.nil_append,List.map_take,List.map_drop];done)));simp only [go_sem,simprocAttr,hR,au,ha,hb,fL,List.length_map,List.map_append,List.map_cons,List.map_nil,rI,iU,List.cons_append,List.nil_append,List.map_take,List.map_drop,List.map_cons,List.map_nil])|(refine cF hX hC hP [(10000,16)] (bR outs ho) rfl rfl rfl ?_ ?_ ?_ ?_ ?_ ?_ rfl rfl ?_ ?_;(focus (simp only [go_sem,simprocAttr,hR,au,ha,hb,fL,List.length_map,List.map_append,List.map_cons,List.map_nil,rI,iU,List.cons_append,List.nil_append,List.map_take,List.map_drop];done));(iterate 6 (focus (simp [go_sem,simprocAttr,hR,au,ha,hb,fL,List.length_map,List.map_append,List.map_cons,List.map_nil,rI,iU,List.cons_append,List.nil_append,List.map_take,List.map_drop];done)));simp only [go_sem,simprocAttr,hR,au,ha,hb,fL,List.length_map,List.map_append,List.map_cons,List.map_nil,rI,iU,List.cons_append,List.nil_append,List.map_take,List.map_drop,List.map_cons,List.map_nil])|refine aa hX hC hP (iA g hm x) rfl rfl rfl (by simp only [go_sem,simprocAttr,hR,au,ha,hb,fL,List.length_map,List.map_append,List.map_cons,List.map_nil,rI,iU,List.cons_append,List.nil_append,List.map_take,List.map_drop]) rfl ?_|refine aa hX hC hP (fz (gU outs) (bk (·.1) g x) hs) rfl rfl rfl (by simp only [go_sem,simprocAttr,hR,au,ha,hb,fL,List.length_map,List.map_append,List.map_cons,List.map_nil,rI,iU,List.cons_append,List.nil_append,List.map_take,List.map_drop]) rfl ?_|(refine ai hX hC hP (er [vw g,sI f.pl] f.row x mM) rfl rfl rfl ?_ ?_ ?_ ?_;iterate 3 (focus (simp only [go_sem,simprocAttr,hR,au,ha,hb,fL,List.length_map,List.map_append,List.map_cons,List.map_nil,rI,iU,List.cons_append,List.nil_append,List.map_take,List.map_drop];done)))|(refine qn hX hC hP 54 (zF g ⟨f.row,f.pl++ [x]⟩ x outs Mu HN) rfl rfl rfl ?_ ?_ (by first|exact ⟨_,_,_,rfl,uN⟩|exact ⟨_,_,_,rfl,uO⟩|exact ⟨_,_,_,rfl,uQ⟩) rfl (by decide) ?_;(iterate 2 (focus (simp only [go_sem,simprocAttr,hR,au,ha,hb,fL,List.length_map,List.map_append,List.map_cons,List.map_nil,rI,iU,List.cons_append,List.nil_append,List.map_take,List.map_drop];done)));simp only [go_sem,simprocAttr,hR,au,ha,hb,fL,List.length_map,List.map_append,List.map_cons,List.map_nil,rI,iU,List.cons_append,List.nil_append,List.map_take,List.map_drop])|(refine az hX hC hP [(10001,42),(10003,54)] (BK g f.row (aX g x outs) (f.pl++ [x]) a b hab j7 h0 yP jA) rfl rfl rfl ?_ ?_ ?_ ?_ ?_ ?_ ?_ ?_ ?_ ?_ ?_ ?_ ?_ ?_;(focus (simp only [go_sem,simprocAttr,hR,au,ha,hb,fL,List.length_map,List.map_append,List.map_cons,List.map_nil,rI,iU,List.cons_append,List.nil_append,List.map_take,List.map_drop];done));(iterate 12 (focus (simp [go_sem,simprocAttr,hR,au,ha,hb,fL,List.length_map,List.map_append,List.map_cons,List.map_nil,rI,iU,List.cons_append,List.nil_append,List.map_take,List.map_drop];done)));simp only [go_sem,simprocAttr,hR,au,ha,hb,fL,List.length_map,List.map_append,List.map_cons,List.map_nil,rI,iU,List.cons_append,List.nil_append,List.map_take,List.map_drop,List.map_cons,List.map_nil]));try simp only [go_sem,simprocAttr,hR,au,ha,hb,fL,List.length_map,List.map_append,List.map_cons,List.map_nil,rI,iU,List.cons_append,List.nil_append,List.map_take,List.map_drop])|(intro h))
end Go.Ab
end
section
namespace Go.Ab
open Go.Proofs
attribute [local congr] ACall.congr
set_option maxRecDepth 10000
set_option maxHeartbeats 4000000
def HO (g:Gr) (f:Fr) (k:Nat):List Int:=((List.range k).filter fun x:Nat=>gm g f (x:Int)).map Int.ofNat
def HP (g:Gr) (f:Fr):List Int:=HO g f g.n.toNat
theorem uR (g:Gr) (hl:g.es.length≤1000) (h0:(bJ g).1=0) (hm:aO g=true):Spec Tryz.prog 84 (Args [eG g]) [] (.tup [.ptr 10000 0,eN 0]) [(10000, .box [.nil 96, .d (vw g), .nil 3])]:=by
 (refine Spec.dK (C:=T.cfg [] []) (rs:= [.t 2, .t 3]) [(10000,11)] (T.aj _ _) Tryz.func84 rfl rfl Tryz.ntmps84 Tryz.results84 (by simp [AObj.isNest]) (by simp [AObj.isNest]) (by first|(simp [look];done)|(simp [asN];done)|(intro l hl;simp only [asN];repeat (rw [if_neg (fun e=>by subst e;simp [look] at hl)]))) (by first|(simp [look];done)|(simp [asN];done)|(intro l hl;simp only [asN];repeat (rw [if_neg (fun e=>by subst e;simp [look] at hl)]))) (by kernel_rfl) ?_;intro X hX hP hC aL aM vals hA;refine ⟨_,by simp,hA, ?_⟩;have af:X.P.follows .mixedOrders=true:=(by rw [hP];exact T.mixed);clear aL aM)
 repeat' (first|((first|((with_reducible (first|apply oA|apply oB));exact rfl;intro K hK)|(refine hK _ ?_;clear hK K)|((with_reducible (first|apply oG|apply oH));iterate 3 exact rfl)|((with_reducible apply oI);(iterate 2 exact rfl);intro K hK)|(with_reducible (first|apply wI|apply wJ|apply wK)));try simp only [go_sem,simprocAttr,h0])|(with_reducible (first|apply oC|apply oJ|exact oK|apply wA|apply wB|apply wC hX hC|apply wD hX hC|apply wE hX hC af|apply wF hX hC af|apply wG|apply wH|apply And.intro))|((with_reducible refine oD ?_ ?_);kernel_rfl)|((with_reducible (first|apply oE|apply oF));(iterate 3 exact rfl);all_goals (intro h;first|(exact absurd h (by decide))|((try simp only [go_sem,simprocAttr,h0] at h);(try with_reducible intro K hK);simp only [go_sem,simprocAttr,h0])))|((first|((with_reducible apply wL);exact rfl)|((with_reducible apply wM);exact rfl));all_goals (try ((with_reducible intro h);first|(exact absurd h (by decide))|(try simp only [go_sem,simprocAttr,h0] at h))))|omega|((first|refine aa hX hC hP (iK g hl) rfl rfl rfl (by simp only [go_sem,simprocAttr,h0]) rfl ?_|refine aa hX hC hP (eW g hm) rfl rfl rfl (by simp only [go_sem,simprocAttr,h0]) rfl ?_);try simp only [go_sem,simprocAttr,h0])|(intro h))
theorem BL (g:Gr) (hl:g.es.length≤1000) (h0:(bJ g).1≠0):Spec Tryz.prog 84 (Args [eG g]) [] (.tup [.d (.sc (.pointer none)),eN 1]) []:=by
 have hb:decide ((bJ g).1=0)=false:=decide_eq_false h0
 (refine Spec.intro (C:=T.cfg [] []) (rs:= [.t 2, .t 3]) (T.aj _ _) Tryz.func84 rfl rfl Tryz.ntmps84 Tryz.results84 (by simp [AObj.isNest]) (by simp [AObj.isNest]) (by kernel_rfl) ?_;intro X hX hP hC aL aM vals hA;refine ⟨_,by simp,hA, ?_⟩;have af:X.P.follows .mixedOrders=true:=(by rw [hP];exact T.mixed);clear aL aM)
 repeat' (first|((first|((with_reducible (first|apply oA|apply oB));exact rfl;intro K hK)|(refine hK _ ?_;clear hK K)|((with_reducible (first|apply oG|apply oH));iterate 3 exact rfl)|((with_reducible apply oI);(iterate 2 exact rfl);intro K hK)|(with_reducible (first|apply wI|apply wJ|apply wK)));try simp only [go_sem,simprocAttr,hb])|(with_reducible (first|apply oC|apply oJ|exact oK|apply wA|apply wB|apply wC hX hC|apply wD hX hC|apply wE hX hC af|apply wF hX hC af|apply wG|apply wH|apply And.intro))|((with_reducible refine oD ?_ ?_);kernel_rfl)|((with_reducible (first|apply oE|apply oF));(iterate 3 exact rfl);all_goals (intro h;first|(exact absurd h (by decide))|((try simp only [go_sem,simprocAttr,hb] at h);(try with_reducible intro K hK);simp only [go_sem,simprocAttr,hb])))|((first|((with_reducible apply wL);exact rfl)|((with_reducible apply wM);exact rfl));all_goals (try ((with_reducible intro h);first|(exact absurd h (by decide))|(try simp only [go_sem,simprocAttr,hb] at h))))|omega|((first|refine aa hX hC hP (iK g hl) rfl rfl rfl (by simp only [go_sem,simprocAttr,hb]) rfl ?_);try simp only [go_sem,simprocAttr,hb])|(intro h))
end Go.Ab
end
section
namespace Go.Ab
open Go.Proofs
attribute [local congr] ACall.congr
set_option maxRecDepth 10000
set_option maxHeartbeats 4000000
def Pa (g:Gr) (f:Fr):List AV:= [eN g.n, .d (sE g.es), .d (sT f.row), .d (sI f.pl)]
def ig (row:List It) (x:Int):Nat→Int
 |0=>0
 |k+1=>if (row.getD k (0,0,0)).2.2=x then ig row x k+1 else ig row x k
theorem gq {row:List It} {x:Int} {k:Nat} :ig row x (k+1)=if (row.getD k (0,0,0)).2.2=x then ig row x k+1 else ig row x k:=rfl
def DR (row:List It) (x:Int) (need:Nat) (j:Nat):Bool:=decide ((row.getD j (0,0,0)).2.2≠x)&&decide (0≤(row.getD j (0,0,0)).1)&&decide (0<ig row x j)&&decide (ig row x j<need)
theorem uS {row:List It} {x:Int} {need j:Nat} :DR row x need j=true↔((row.getD j (0,0,0)).2.2≠x∧0≤(row.getD j (0,0,0)).1)∧0<ig row x j∧ig row x j<need:=by
 simp only [DR,Bool.and_eq_true,decide_eq_true_eq,and_assoc]
def bE (g:Gr) (x:Int):Nat:=(aD (·.2) g.es g.es.length x).length
def aK (g:Gr) (f:Fr) (x:Int):Bool:=
 if x<0∨g.n≤x∨x∈f.pl then false else if bE g x=0 then true else
 !(List.range f.row.length).any (DR f.row x (bE g x))&&decide (ig f.row x f.row.length=bE g x)
end Go.Ab
end
section
namespace Go.Ab
open Go.Proofs
attribute [local congr] ACall.congr
set_option maxRecDepth 10000
set_option maxHeartbeats 4000000
end Go.Ab
end
section
namespace Go.Ab
open Go.Proofs
attribute [local congr] ACall.congr
set_option maxRecDepth 10000
set_option maxHeartbeats 8000000
def b9 (g:Gr) (x:Int):List Int:=aD (·.1) g.es g.es.length x
def aF (g:Gr) (f:Fr) (x:Int) (outs:List Int):(List It × Int) × Fr:=
 (((f.row.take (aZ f.row x).2.1.toNat).drop (max (aZ f.row x).1 0).toNat,0),⟨f.row.take (max (aZ f.row x).1 0).toNat++aX g x outs++f.row.drop (aZ f.row x).2.1.toNat,f.pl++ [x]⟩)
def ij (g:Gr) (f:Fr) (x:Int) (outs:List Int):(List It × Int) × Fr:=
 if aK g f x=false then (([],3),f) else
 if outs.length≠(b9 g x).length∨∃i∈b9 g x,i∉outs then (([],1),f) else aF g f x outs
theorem bU {f:Edge→Int} {es:List Edge} {k:Nat} {x:Int} :(aD f es k x).Nodup:=by
 unfold aD
 exact List.Pairwise.map _ (fun a b h e=>h (Int.ofNat.inj e)) (List.Pairwise.filter _ List.nodup_range)
theorem zI:∀ {ms os:List Int},ms.Nodup→(∀i∈ms,i∈os)→os.length=ms.length→∀i∈os,i∈ms
 | [],os,_,_,hl,i,hi=>by
   have:os= []:=List.eq_nil_of_length_eq_zero (by simpa using hl)
   rw [this] at hi;exact hi
 |m::ms,os,hn,hs,hl,i,hi=>by
  rw [List.nodup_cons] at hn
  have hm:=hs m (List.mem_cons_self ..)
  by_cases h:i=m
  ·rw [h];exact List.mem_cons_self ..
  ·refine List.mem_cons_of_mem _ (zI hn.2 (os:=os.erase m) (fun j hj=> ?_) ?_ i ?_)
   ·have:j≠m:=fun e=>hn.1 (e ▸ hj)
    exact (List.mem_erase_of_ne this).2 (hs j (List.mem_cons_of_mem _ hj))
   ·rw [List.length_erase_of_mem hm,hl];simp
   ·exact (List.mem_erase_of_ne h).2 hi
theorem yb {g:Gr} {x:Int} :(b9 g x).length≤g.es.length:=dH
end Go.Ab
end
section
namespace Go.Ab
open Go.Proofs
attribute [local congr] ACall.congr
set_option maxRecDepth 10000
set_option maxHeartbeats 4000000
def vI (ls:List (List Int)):List (List D):=ls.map fun l=> [sI l]
theorem vI_length {ls:List (List Int)} :(vI ls).length=ls.length:=by simp [vI]
theorem kD {ls:List (List Int)} {k:Nat} (h:k<ls.length) (d:List D):(vI ls).getD k d= [sI (ls.getD k [])]:=by
 simp [vI,List.getD_eq_getElem?_getD,List.getElem?_eq_getElem h]
attribute [go_sem] vI_length
def As (l:List Int) (i:Nat):List Int:=l.take i++l.drop (i+1)
def FT:Nat→List Int→List (List Int)
 |0,_=> [[]]
 |n+1,l=>(List.range l.length).flatMap fun i=>(FT n (As l i)).map fun t=>l.getD i 0::t
def Pb (n:Nat) (l:List Int) (k:Nat):List (List Int):=(List.range k).flatMap fun i=>(FT n (As l i)).map fun t=>l.getD i 0::t
def Pc:Nat→Nat
 |0=>1
 |n+1=>(n+1)*Pc n
theorem s7 {α β:Type} {f:α→β} {l:List α} {d:α} {k:Nat} (h:k<l.length):(l.take (k+1)).map f=(l.take k).map f++ [f (l.getD k d)]:=nK h
end Go.Ab
end
section
namespace Go.Ab
open Go.Proofs
attribute [local congr] ACall.congr
set_option maxRecDepth 10000
set_option maxHeartbeats 8000000
def J1 (g:Gr):Nat→Fr→Bool
 |0,f=>decide ((f.pl.length:Int)=g.n)
 |m+1,f=>decide ((f.pl.length:Int)=g.n)||(List.range g.n.toNat).any fun x=>aK g f (x:Int)&&(FT (b9 g (x:Int)).length (b9 g (x:Int))).any fun o=>J1 g m (aF g f (x:Int) o).2
def Pd (g:Gr) (m:Nat) (f:Fr) (x:Nat):Bool:=aK g f (x:Int)&&(FT (b9 g (x:Int)).length (b9 g (x:Int))).any fun o=>J1 g m (aF g f (x:Int) o).2
theorem BM {g:Gr} {f:Fr} {x:Int} {o:List Int} :(aF g f x o).2.row.length≤f.row.length+o.length+1∧(aF g f x o).2.pl.length=f.pl.length+1:=by
 obtain ⟨a,b,ha,hb,hab,j7⟩:=uP f.row x
 have:=s6 (g:=g) (x:=x) (outs:=o)
 have e:aF g f x o=(((f.row.take b).drop a,0),⟨f.row.take a++aX g x o++f.row.drop b,f.pl++ [x]⟩):=by
  simp only [aF,ha,hb,Int.toNat_natCast]
 rw [e]
 refine ⟨?_,by simp⟩
 show (f.row.take a++aX g x o++f.row.drop b).length≤_
 rw [List.length_append,List.length_append,List.length_take,List.length_drop]
 omega
end Go.Ab
end
section
namespace Go.Ab
open Go.Proofs
attribute [local congr] ACall.congr
set_option maxRecDepth 10000
set_option maxHeartbeats 4000000
theorem s8 (g:Gr) (hl:g.es.length≤9223372036854775807) (hm:aO g=false):Spec Tryz.prog 99 (Args [eG g]) [] (.tup [eN (fP g).1,eN (fP g).2.1, .d (sI (fP g).2.2)]) []:=by
 (refine Spec.intro (C:=T.cfg [] []) (rs:= [.t 2, .t 3, .t 4]) (T.aj _ _) Tryz.func99 rfl rfl Tryz.ntmps99 Tryz.results99 (by simp [AObj.isNest]) (by simp [AObj.isNest]) (by kernel_rfl) ?_;intro X hX hP hC aL aM vals hA;refine ⟨_,by simp,hA, ?_⟩;have af:X.P.follows .mixedOrders=true:=(by rw [hP];exact T.mixed);clear aL aM)
 repeat' (first|((first|((with_reducible (first|apply oA|apply oB));exact rfl;intro K hK)|(refine hK _ ?_;clear hK K)|((with_reducible (first|apply oG|apply oH));iterate 3 exact rfl)|((with_reducible apply oI);(iterate 2 exact rfl);intro K hK)|(with_reducible (first|apply wI|apply wJ|apply wK)));try simp only [go_sem,simprocAttr,hm])|(with_reducible (first|apply oC|apply oJ|exact oK|apply wA|apply wB|apply wC hX hC|apply wD hX hC|apply wE hX hC af|apply wF hX hC af|apply wG|apply wH|apply And.intro))|((with_reducible refine oD ?_ ?_);kernel_rfl)|((with_reducible (first|apply oE|apply oF));(iterate 3 exact rfl);all_goals (intro h;first|(exact absurd h (by decide))|((try simp only [go_sem,simprocAttr,hm] at h);(try with_reducible intro K hK);simp only [go_sem,simprocAttr,hm])))|((first|((with_reducible apply wL);exact rfl)|((with_reducible apply wM);exact rfl));all_goals (try ((with_reducible intro h);first|(exact absurd h (by decide))|(try simp only [go_sem,simprocAttr,hm] at h))))|omega|((first|refine aa hX hC hP (cO g hl) rfl rfl rfl (by simp only [go_sem,simprocAttr,hm]) rfl ?_);try simp only [go_sem,simprocAttr,hm])|(intro h))
 all_goals simp [fP,gH,hm]
theorem s9 (g:Gr) (hl:g.es.length≤9223372036854775807):Spec Tryz.prog 99 (Args [eG g]) [] (.tup [eN (fP g).1,eN (fP g).2.1, .d (sI (fP g).2.2)]) []:=by
 cases hm:aO g with
 |false=>exact s8 g hl hm
 |true=>exact uc g (by have:=aT hm;omega)
theorem ue (g:Gr) (hl:g.es.length≤9223372036854775807):Spec Tryz.prog 72 (Args [eG g]) [] (eB (decide ((bJ g).1=0))) []:=by
 rw [HM]
 (refine Spec.intro (C:=T.cfg [] []) (rs:= [.t 2]) (T.aj _ _) Tryz.func72 rfl rfl Tryz.ntmps72 Tryz.results72 (by simp [AObj.isNest]) (by simp [AObj.isNest]) (by kernel_rfl) ?_;intro X hX hP hC aL aM vals hA;refine ⟨_,by simp,hA, ?_⟩;have af:X.P.follows .mixedOrders=true:=(by rw [hP];exact T.mixed);clear aL aM)
 repeat' (first|((first|((with_reducible (first|apply oA|apply oB));exact rfl;intro K hK)|(refine hK _ ?_;clear hK K)|((with_reducible (first|apply oG|apply oH));iterate 3 exact rfl)|((with_reducible apply oI);(iterate 2 exact rfl);intro K hK)|(with_reducible (first|apply wI|apply wJ|apply wK)));try simp only [go_sem,simprocAttr])|(with_reducible (first|apply oC|apply oJ|exact oK|apply wA|apply wB|apply wC hX hC|apply wD hX hC|apply wE hX hC af|apply wF hX hC af|apply wG|apply wH|apply And.intro))|((with_reducible refine oD ?_ ?_);kernel_rfl)|((with_reducible (first|apply oE|apply oF));(iterate 3 exact rfl);all_goals (intro h;first|(exact absurd h (by decide))|((try simp only [go_sem,simprocAttr] at h);(try with_reducible intro K hK);simp only [go_sem,simprocAttr])))|((first|((with_reducible apply wL);exact rfl)|((with_reducible apply wM);exact rfl));all_goals (try ((with_reducible intro h);first|(exact absurd h (by decide))|(try simp only [go_sem,simprocAttr] at h))))|omega|((first|refine aa hX hC hP (s9 g hl) rfl rfl rfl (by simp only [go_sem,simprocAttr]) rfl ?_);try simp only [go_sem,simprocAttr])|(intro h))
end Go.Ab
end
section
namespace Go.Ab
open Go.Proofs
attribute [local congr] ACall.congr
set_option maxRecDepth 10000
set_option maxHeartbeats 4000000
def g9:Gr:=⟨3, [(0,1),(0,2),(1,2)]⟩
def QC:Fr:=⟨[], []⟩
def QD:Fr:=⟨[(0,0,1),(1,0,2)], [0]⟩
def QE:Fr:=⟨[(2,1,2),(1,0,2)], [0,1]⟩
def QF:Fr:=⟨[(-1,2, -1)], [0,1,2]⟩
end Go.Ab
end
