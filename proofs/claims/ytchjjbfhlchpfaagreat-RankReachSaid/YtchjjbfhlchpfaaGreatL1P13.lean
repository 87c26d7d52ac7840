/- A part of the proof. -/
import Derived.Test.YtchjjbfhlchpfaaGreatL1P12
set_option linter.unusedSimpArgs false
set_option linter.unusedVariables false
section
namespace Go.Ab
open Go.Proofs
attribute [local congr] ACall.congr
set_option maxRecDepth 10000
def uQ (g:Gr):List Bool:=fk g g.n.toNat
theorem kS {g:Gr} :fk g g.n.toNat=uQ g:=rfl
def Dj (g:Gr):Int:=if bN (fun b:Bool=>b) (uQ g)<0 then g.n else bN (fun b:Bool=>b) (uQ g)
def uR (g:Gr) (x:Int) (b:Int) (i:Nat):Int:=if hd g i=x∧(uQ g).getD (tl g i).toNat false=true then min b (tl g i) else b
def dS (g:Gr) (x:Int) (k:Nat):Int:=(List.range k).foldl (uR g x) g.n
def mB (g:Gr):Nat→List Int→Int→List Int × Int
 |0,way,x=>(way,x)
 |f+1,way,x=>if x∈way then (way,x) else mB g f (way++ [x]) (dS g x g.es.length)
def gx (g:Gr):Gr:=⟨g.n+1,g.es⟩
def nw (g:Gr):List Int × Int:=mB g (g.n.toNat+1) [] (Dj g)
def pI (l:List Int) (m k:Nat):List Int:=(List.range k).map fun i=>l.getD ((m+l.length - i) % l.length) 0
def tr (l:List Int):List Int:=pI l (eO l (gT l)).toNat l.length
def kT (g:Gr):List Int:=if Dj g=g.n then [] else tr ((nw g).1.drop (eO (nw g).1 (nw g).2).toNat)
theorem mC {g:Gr} {x:Int} {k:Nat} :dS g x (k+1)=uR g x (dS g x k) k:=by
 simp [dS,List.range_succ]
theorem o3 {g:Gr} (hm:aL g=true) {x:Int} :∀ {k:Nat},k≤g.es.length→0≤dS g x k∧dS g x k≤g.n
 |0,_=>by have:=aR hm;simp [dS];omega
 |k+1,h=>by
  have ih:=o3 hm (x:=x) (k:=k) (by omega)
  obtain ⟨⟨h1,h2⟩,_⟩:=ee hm (k:=k) (by omega)
  rw [mC];unfold uR tl
  split<;>omega
theorem Aw {l:List Int} {m k:Nat} :pI l m (k+1)=pI l m k++ [l.getD ((m+l.length - k) % l.length) 0]:=by
 simp [pI,List.range_succ]
theorem wQ {g:Gr} {way:List Int} {a:Int} (h:a∈way):∀f,mB g f way a=(way,a)
 |0=>rfl
 |f+1=>by simp only [mB];rw [if_pos h]
theorem uS:∀ {l:List Int} {x:Int},x∈l→gT l≤x
 |a::r,x,h=>by
  have:∀(r:List Int) (a:Int),r.foldl min a≤a∧∀x∈r,r.foldl min a≤x:=by
   intro r
   induction r with
   |nil=>intro a;exact ⟨Int.le_refl _,by simp⟩
   |cons b r ih=>
    intro a
    obtain ⟨h1,h2⟩:=ih (min a b)
    simp only [List.foldl_cons]
    refine ⟨by omega,fun x hx=> ?_⟩
    rcases List.mem_cons.1 hx with rfl|hx
    ·omega
    ·exact h2 x hx
  obtain ⟨h1,h2⟩:=this r a
  rcases List.mem_cons.1 h with rfl|h
  ·exact h1
  ·exact h2 x h
theorem gA {l:List Int} {m:Nat} (h:m<l.length):l.getD m 0∈l:=by
 rw [List.getD_eq_getElem?_getD,List.getElem?_eq_getElem h];exact List.getElem_mem h
theorem Cy {l:List Int} {m:Nat} (hm:m<l.length) (h1:∀j,j<l.length→l.getD m 0≤l.getD j 0) (h2:∀j,j<m→l.getD m 0<l.getD j 0):eO l (gT l)=m:=by
 have hmin:gT l=l.getD m 0:=by
  have g1:=uS (gA hm)
  obtain ⟨j,hj,e⟩:=List.getElem_of_mem (iC (l:=l) (by omega))
  have g2:=h1 j hj
  rw [List.getD_eq_getElem?_getD (l:=l) (i:=j),List.getElem?_eq_getElem hj,Option.getD_some,e] at g2
  omega
 refine dF (d:=0) hm (fun j hj=> ?_) ?_
 ·have:=h2 j hj
  rw [hmin];simp only [decide_eq_false_iff_not];omega
 ·rw [hmin];simp
theorem dr (g:Gr) (hm:aL g=true):Spec Tryz.prog 161 (Args [eG g]) [] (.d (sI (kT g))) []:=by
 have hn:=aR hm
 have hlf:(uQ g).length=g.n.toNat:=leftK_length
 (refine Spec.intro (C:=T.cfg [] []) (rs:= [.t 2]) (T.ai _ _) Tryz.func161 rfl rfl Tryz.ntmps161 Tryz.results161 (by simp [AObj.isNest]) (by simp [AObj.isNest]) (by kernel_rfl) ?_;intro X hX hP hC aH aI vals hA;refine ⟨_,by simp,hA, ?_⟩;have af:X.P.follows .mixedOrders=true:=(by rw [hP];exact T.mixed);clear aH aI)
 repeat' (first|((first|((with_reducible (first|apply oA|apply oB));exact rfl;intro K hK)|(refine hK _ ?_;clear hK K)|((with_reducible (first|apply oG|apply oH));iterate 3 exact rfl)|((with_reducible apply oI);(iterate 2 exact rfl);intro K hK)|(with_reducible (first|apply wI|apply wJ|apply wK)));try simp only [go_sem,simprocAttr,kS])|(with_reducible (first|apply oC|apply oJ|exact oK|apply wA|apply wB|apply wC hX hC|apply wD hX hC|apply wE hX hC af|apply wF hX hC af|apply wG|apply wH|apply And.intro))|((with_reducible refine oD ?_ ?_);kernel_rfl)|((with_reducible (first|apply oE|apply oF));(iterate 3 exact rfl);all_goals (intro h;first|(exact absurd h (by decide))|((try simp only [go_sem,simprocAttr,kS] at h);(try with_reducible intro K hK);simp only [go_sem,simprocAttr,kS])))|((first|((with_reducible apply wL);exact rfl)|((with_reducible apply wM);exact rfl));all_goals (try ((with_reducible intro h);first|(exact absurd h (by decide))|(try simp only [go_sem,simprocAttr,kS] at h))))|omega|((first|refine aa hX hC hP (cI g hm) rfl rfl rfl (by simp only [go_sem,simprocAttr,kS]) rfl ?_|(refine ah hX hC hP (bh way x bP) rfl rfl rfl ?_ ?_ ?_ ?_;iterate 3 (focus (simp only [go_sem,simprocAttr,kS];done)))|(refine ah hX hC hP (bh way (a:Int) bP) rfl rfl rfl ?_ ?_ ?_ ?_;iterate 3 (focus (simp only [go_sem,simprocAttr,kS];done))));try simp only [go_sem,simprocAttr,kS])|(intro h))
 refine aj (fun k:Nat=>k≤g.n.toNat∧∀j,j<k→(uQ g).getD j false=false) (fun k=>⟨[(1, .ptr 1 0),(4,eN k),(3, .d (sB (uQ g)))], [(1, .box [eN g.n, .d (sE g.es)])]⟩) (fun k=>g.n.toNat - k) 0 (by simp) ?_ ?_
 ·refine Le.of ?_ ?_<;>simp [go_sem,simprocAttr,uQ]
 rintro k ⟨hk,hno⟩
 rcases Nat.lt_or_ge k g.n.toNat with hlt|hge
 ·have hb:decide ((k:Int)<g.n)=true:=decide_eq_true (by omega)
  cases hkb:(uQ g).getD k false with
  |false=>
   repeat' (first|((first|((with_reducible (first|apply oA|apply oB));exact rfl;intro K hK)|(refine hK _ ?_;clear hK K)|((with_reducible (first|apply oG|apply oH));iterate 3 exact rfl)|((with_reducible apply oI);(iterate 2 exact rfl);intro K hK)|(with_reducible (first|apply wI|apply wJ|apply wK)));try simp only [go_sem,simprocAttr,hb,hkb,hlf])|(with_reducible (first|apply oC|apply oJ|exact oK|apply wA|apply wB|apply wC hX hC|apply wD hX hC|apply wE hX hC af|apply wF hX hC af|apply wG|apply wH|apply And.intro))|((with_reducible refine oD ?_ ?_);kernel_rfl)|((with_reducible (first|apply oE|apply oF));(iterate 3 exact rfl);all_goals (intro h;first|(exact absurd h (by decide))|((try simp only [go_sem,simprocAttr,hb,hkb,hlf] at h);(try with_reducible intro K hK);simp only [go_sem,simprocAttr,hb,hkb,hlf])))|((first|((with_reducible apply wL);exact rfl)|((with_reducible apply wM);exact rfl));all_goals (try ((with_reducible intro h);first|(exact absurd h (by decide))|(try simp only [go_sem,simprocAttr,hb,hkb,hlf] at h))))|omega|((first|refine aa hX hC hP (cI g hm) rfl rfl rfl (by simp only [go_sem,simprocAttr,hb,hkb,hlf]) rfl ?_|(refine ah hX hC hP (bh way x bP) rfl rfl rfl ?_ ?_ ?_ ?_;iterate 3 (focus (simp only [go_sem,simprocAttr,hb,hkb,hlf];done)))|(refine ah hX hC hP (bh way (a:Int) bP) rfl rfl rfl ?_ ?_ ?_ ?_;iterate 3 (focus (simp only [go_sem,simprocAttr,hb,hkb,hlf];done))));try simp only [go_sem,simprocAttr,hb,hkb,hlf])|(intro h))
   refine ⟨k+1,⟨by omega,fun j hj=> ?_⟩, ?_,by omega⟩
   ·by_cases hjk:j=k
    ·subst hjk;exact hkb
    ·exact hno j (by omega)
   ·(refine Le.of ?_ ?_<;>simp [go_sem,simprocAttr,hb,hkb,hlf])
  |true=>
   have hst:Dj g=k:=by
    have:bN (fun b:Bool=>b) (uQ g)=k:=dF (d:=false) (by omega) hno hkb
    unfold Dj;rw [this,if_neg (by omega)]
   have hne:decide ((k:Int)=g.n)=false:=decide_eq_false (by omega)
   repeat' (first|((first|((with_reducible (first|apply oA|apply oB));exact rfl;intro K hK)|(refine hK _ ?_;clear hK K)|((with_reducible (first|apply oG|apply oH));iterate 3 exact rfl)|((with_reducible apply oI);(iterate 2 exact rfl);intro K hK)|(with_reducible (first|apply wI|apply wJ|apply wK)));try simp only [go_sem,simprocAttr,hb,hkb,hlf,hne])|(with_reducible (first|apply oC|apply oJ|exact oK|apply wA|apply wB|apply wC hX hC|apply wD hX hC|apply wE hX hC af|apply wF hX hC af|apply wG|apply wH|apply And.intro))|((with_reducible refine oD ?_ ?_);kernel_rfl)|((with_reducible (first|apply oE|apply oF));(iterate 3 exact rfl);all_goals (intro h;first|(exact absurd h (by decide))|((try simp only [go_sem,simprocAttr,hb,hkb,hlf,hne] at h);(try with_reducible intro K hK);simp only [go_sem,simprocAttr,hb,hkb,hlf,hne])))|((first|((with_reducible apply wL);exact rfl)|((with_reducible apply wM);exact rfl));all_goals (try ((with_reducible intro h);first|(exact absurd h (by decide))|(try simp only [go_sem,simprocAttr,hb,hkb,hlf,hne] at h))))|omega|((first|refine aa hX hC hP (cI g hm) rfl rfl rfl (by simp only [go_sem,simprocAttr,hb,hkb,hlf,hne]) rfl ?_|(refine ah hX hC hP (bh way x bP) rfl rfl rfl ?_ ?_ ?_ ?_;iterate 3 (focus (simp only [go_sem,simprocAttr,hb,hkb,hlf,hne];done)))|(refine ah hX hC hP (bh way (a:Int) bP) rfl rfl rfl ?_ ?_ ?_ ?_;iterate 3 (focus (simp only [go_sem,simprocAttr,hb,hkb,hlf,hne];done))));try simp only [go_sem,simprocAttr,hb,hkb,hlf,hne])|(intro h))
   clear hno hb hne hkb
   (refine mg hX 5 31 39 (by simp only [go_sem,simprocAttr]) rfl (by first|exact .inl rfl|exact .inr rfl) (by decide) ?_;simp only [go_sem,simprocAttr])
   refine aj (fun i:List Int × Int=>Way (gx g) i.1∧(0≤i.2∧i.2≤g.n)∧mB g (left (gx g) i.1) i.1 i.2=nw g) (fun i=>⟨[(1, .ptr 1 0),(4,eN i.2),(3, .d (sB (uQ g))),(5, .ref 39)], [(1, .box [eN g.n, .d (sE g.es)]),(39, .tip 3 1 (i.1.map rI))]⟩) (fun i=>left (gx g) i.1) ([],(k:Int)) ⟨Way.nil _,by simp only;omega, ?_⟩ ?_ ?_
   ·simp only [nv,nw,gx,hst]
    rw [show (g.n+1).toNat=g.n.toNat+1 from by omega]
   ·refine Le.of ?_ ?_<;>simp [go_sem,simprocAttr]
   rintro ⟨way,x⟩ ⟨wO,hx,hrun⟩
   simp only at wO hx hrun ⊢
   have LQ:way.length≤65:=by have:=wO.fuel;simp only [gx] at this;omega
   have bP:way.length≤9223372036854775807:=by omega
   by_cases hmem:x∈way
   ·have hend:=wQ (g:=g) hmem (left (gx g) way)
    rw [hrun] at hend
    obtain ⟨m,vn,hm2,_⟩:=dG hmem
    have hneg:decide ((m:Int)<0)=false:=decide_eq_false (by omega)
    obtain ⟨l,Cz⟩:∃l,l=way.drop m:=⟨_,rfl⟩
    have wP:l.length=way.length - m:=by rw [Cz];simp
    have FG:kT g=tr l:=by
     simp only [kT,hend,vn,Int.toNat_natCast, ← Cz]
     rw [if_neg (by omega)]
    repeat' (first|((first|((with_reducible (first|apply oA|apply oB));exact rfl;intro K hK)|(refine hK _ ?_;clear hK K)|((with_reducible (first|apply oG|apply oH));iterate 3 exact rfl)|((with_reducible apply oI);(iterate 2 exact rfl);intro K hK)|(with_reducible (first|apply wI|apply wJ|apply wK)));try simp only [go_sem,simprocAttr,vn,hneg, ← List.map_take, ← List.map_drop,List.take_length, ← Cz])|(with_reducible (first|apply oC|apply oJ|exact oK|apply wA|apply wB|apply wC hX hC|apply wD hX hC|apply wE hX hC af|apply wF hX hC af|apply wG|apply wH|apply And.intro))|((with_reducible refine oD ?_ ?_);kernel_rfl)|((with_reducible (first|apply oE|apply oF));(iterate 3 exact rfl);all_goals (intro h;first|(exact absurd h (by decide))|((try simp only [go_sem,simprocAttr,vn,hneg, ← List.map_take, ← List.map_drop,List.take_length, ← Cz] at h);(try with_reducible intro K hK);simp only [go_sem,simprocAttr,vn,hneg, ← List.map_take, ← List.map_drop,List.take_length, ← Cz])))|((first|((with_reducible apply wL);exact rfl)|((with_reducible apply wM);exact rfl));all_goals (try ((with_reducible intro h);first|(exact absurd h (by decide))|(try simp only [go_sem,simprocAttr,vn,hneg, ← List.map_take, ← List.map_drop,List.take_length, ← Cz] at h))))|omega|((first|refine aa hX hC hP (cI g hm) rfl rfl rfl (by simp only [go_sem,simprocAttr,vn,hneg, ← List.map_take, ← List.map_drop,List.take_length, ← Cz]) rfl ?_|(refine ah hX hC hP (bh way x bP) rfl rfl rfl ?_ ?_ ?_ ?_;iterate 3 (focus (simp only [go_sem,simprocAttr,vn,hneg, ← List.map_take, ← List.map_drop,List.take_length, ← Cz];done)))|(refine ah hX hC hP (bh way (a:Int) bP) rfl rfl rfl ?_ ?_ ?_ ?_;iterate 3 (focus (simp only [go_sem,simprocAttr,vn,hneg, ← List.map_take, ← List.map_drop,List.take_length, ← Cz];done))));try simp only [go_sem,simprocAttr,vn,hneg, ← List.map_take, ← List.map_drop,List.take_length, ← Cz])|(intro h))
    clear hrun wO hend vn hneg Cz
    have hl0:0<l.length:=by omega
    have hlm:l.length≤65:=by omega
    refine aj (fun i:Nat × Nat=>i.1≤l.length∧i.2<l.length∧(∀j,j<i.1→l.getD i.2 0≤l.getD j 0)∧(∀j,j<i.2→l.getD i.2 0<l.getD j 0)) (fun i=>⟨[(9,eN i.1),(8,eN i.2),(5, .d (sI l))], []⟩) (fun i=>l.length - i.1) (0,0) ⟨by simp,hl0,by simp,by simp⟩ ?_ ?_
    ·refine Le.of ?_ ?_<;>simp [go_sem,simprocAttr]
    rintro ⟨i,q⟩ ⟨hi,hq,hq1,Fj⟩
    simp only at hi hq hq1 Fj ⊢
    rcases Nat.lt_or_ge i l.length with hil|KA
    ·have hb:decide ((i:Int)<(l.length:Int))=true:=decide_eq_true (by omega)
     repeat' (first|((first|((with_reducible (first|apply oA|apply oB));exact rfl;intro K hK)|(refine hK _ ?_;clear hK K)|((with_reducible (first|apply oG|apply oH));iterate 3 exact rfl)|((with_reducible apply oI);(iterate 2 exact rfl);intro K hK)|(with_reducible (first|apply wI|apply wJ|apply wK)));try simp only [go_sem,simprocAttr,hb])|(with_reducible (first|apply oC|apply oJ|exact oK|apply wA|apply wB|apply wC hX hC|apply wD hX hC|apply wE hX hC af|apply wF hX hC af|apply wG|apply wH|apply And.intro))|((with_reducible refine oD ?_ ?_);kernel_rfl)|((with_reducible (first|apply oE|apply oF));(iterate 3 exact rfl);all_goals (intro h;first|(exact absurd h (by decide))|((try simp only [go_sem,simprocAttr,hb] at h);(try with_reducible intro K hK);simp only [go_sem,simprocAttr,hb])))|((first|((with_reducible apply wL);exact rfl)|((with_reducible apply wM);exact rfl));all_goals (try ((with_reducible intro h);first|(exact absurd h (by decide))|(try simp only [go_sem,simprocAttr,hb] at h))))|omega|((first|refine aa hX hC hP (cI g hm) rfl rfl rfl (by simp only [go_sem,simprocAttr,hb]) rfl ?_|(refine ah hX hC hP (bh way x bP) rfl rfl rfl ?_ ?_ ?_ ?_;iterate 3 (focus (simp only [go_sem,simprocAttr,hb];done)))|(refine ah hX hC hP (bh way (a:Int) bP) rfl rfl rfl ?_ ?_ ?_ ?_;iterate 3 (focus (simp only [go_sem,simprocAttr,hb];done))));try simp only [go_sem,simprocAttr,hb])|(intro h))
     ·refine ⟨(i+1,i),⟨by simp only;omega,hil,fun j hj=> ?_,fun j hj=> ?_⟩, ?_,by simp only;omega⟩
      ·simp only at hj ⊢
       by_cases hji:j=i
       ·subst hji;exact Int.le_refl _
       ·have:=hq1 j (by omega);omega
      ·simp only at hj ⊢
       have:=hq1 j hj;omega
      ·refine Le.of ?_ ?_<;>simp [go_sem,simprocAttr]
     ·refine ⟨(i+1,q),⟨by simp only;omega,hq,fun j hj=> ?_,Fj⟩, ?_,by simp only;omega⟩
      ·simp only at hj ⊢
       by_cases hji:j=i
       ·subst hji;omega
       ·exact hq1 j (by omega)
      ·refine Le.of ?_ ?_<;>simp [go_sem,simprocAttr]
    ·have hb:decide ((i:Int)<(l.length:Int))=false:=decide_eq_false (by omega)
     obtain rfl:i=l.length:=by omega
     have hidx:=Cy hq hq1 Fj
     repeat' (first|((first|((with_reducible (first|apply oA|apply oB));exact rfl;intro K hK)|(refine hK _ ?_;clear hK K)|((with_reducible (first|apply oG|apply oH));iterate 3 exact rfl)|((with_reducible apply oI);(iterate 2 exact rfl);intro K hK)|(with_reducible (first|apply wI|apply wJ|apply wK)));try simp only [go_sem,simprocAttr,hb])|(with_reducible (first|apply oC|apply oJ|exact oK|apply wA|apply wB|apply wC hX hC|apply wD hX hC|apply wE hX hC af|apply wF hX hC af|apply wG|apply wH|apply And.intro))|((with_reducible refine oD ?_ ?_);kernel_rfl)|((with_reducible (first|apply oE|apply oF));(iterate 3 exact rfl);all_goals (intro h;first|(exact absurd h (by decide))|((try simp only [go_sem,simprocAttr,hb] at h);(try with_reducible intro K hK);simp only [go_sem,simprocAttr,hb])))|((first|((with_reducible apply wL);exact rfl)|((with_reducible apply wM);exact rfl));all_goals (try ((with_reducible intro h);first|(exact absurd h (by decide))|(try simp only [go_sem,simprocAttr,hb] at h))))|omega|((first|refine aa hX hC hP (cI g hm) rfl rfl rfl (by simp only [go_sem,simprocAttr,hb]) rfl ?_|(refine ah hX hC hP (bh way x bP) rfl rfl rfl ?_ ?_ ?_ ?_;iterate 3 (focus (simp only [go_sem,simprocAttr,hb];done)))|(refine ah hX hC hP (bh way (a:Int) bP) rfl rfl rfl ?_ ?_ ?_ ?_;iterate 3 (focus (simp only [go_sem,simprocAttr,hb];done))));try simp only [go_sem,simprocAttr,hb])|(intro h))
     clear hi hb KA
     (refine mg hX 10 98 119 (by simp only [go_sem,simprocAttr]) rfl (by first|exact .inl rfl|exact .inr rfl) (by decide) ?_;simp only [go_sem,simprocAttr])
     refine aj (fun i:Nat=>i≤l.length) (fun i=>⟨[(5, .d (sI l)),(8,eN q),(11,eN i),(10, .ref 119)], [(119, .tip 3 1 ((pI l q i).map rI))]⟩) (fun i=>l.length - i) 0 (by simp) ?_ ?_
     ·refine Le.of ?_ ?_<;>simp [go_sem,simprocAttr,pI]
     rintro i hi
     have hrl:(pI l q i).length=i:=by simp [pI]
     rcases Nat.lt_or_ge i l.length with hil|KA
     ·have hb:decide ((i:Int)<(l.length:Int))=true:=decide_eq_true (by omega)
      have Dh:((q:Int)+(l.length:Int) - (i:Int)).tmod (l.length:Int)=(((q+l.length - i) % l.length:Nat):Int):=by
       rw [show (q:Int)+(l.length:Int) - (i:Int)=((q+l.length - i:Nat):Int) from by omega]
       rw [Int.tmod_eq_emod_of_nonneg (by omega)];rfl
      have hmod:(q+l.length - i) % l.length<l.length:=Nat.mod_lt _ hl0
      repeat' (first|((first|((with_reducible (first|apply oA|apply oB));exact rfl;intro K hK)|(refine hK _ ?_;clear hK K)|((with_reducible (first|apply oG|apply oH));iterate 3 exact rfl)|((with_reducible apply oI);(iterate 2 exact rfl);intro K hK)|(with_reducible (first|apply wI|apply wJ|apply wK)));try simp only [go_sem,simprocAttr,hb,Dh])|(with_reducible (first|apply oC|apply oJ|exact oK|apply wA|apply wB|apply wC hX hC|apply wD hX hC|apply wE hX hC af|apply wF hX hC af|apply wG|apply wH|apply And.intro))|((with_reducible refine oD ?_ ?_);kernel_rfl)|((with_reducible (first|apply oE|apply oF));(iterate 3 exact rfl);all_goals (intro h;first|(exact absurd h (by decide))|((try simp only [go_sem,simprocAttr,hb,Dh] at h);(try with_reducible intro K hK);simp only [go_sem,simprocAttr,hb,Dh])))|((first|((with_reducible apply wL);exact rfl)|((with_reducible apply wM);exact rfl));all_goals (try ((with_reducible intro h);first|(exact absurd h (by decide))|(try simp only [go_sem,simprocAttr,hb,Dh] at h))))|omega|((first|refine aa hX hC hP (cI g hm) rfl rfl rfl (by simp only [go_sem,simprocAttr,hb,Dh]) rfl ?_|(refine ah hX hC hP (bh way x bP) rfl rfl rfl ?_ ?_ ?_ ?_;iterate 3 (focus (simp only [go_sem,simprocAttr,hb,Dh];done)))|(refine ah hX hC hP (bh way (a:Int) bP) rfl rfl rfl ?_ ?_ ?_ ?_;iterate 3 (focus (simp only [go_sem,simprocAttr,hb,Dh];done))));try simp only [go_sem,simprocAttr,hb,Dh])|(intro h))
      refine ⟨i+1,by omega, ?_,by omega⟩
      rw [Aw]
      refine Le.of ?_ ?_<;>simp [go_sem,simprocAttr,rI]
     ·have hb:decide ((i:Int)<(l.length:Int))=false:=decide_eq_false (by omega)
      obtain rfl:i=l.length:=by omega
      repeat' (first|((first|((with_reducible (first|apply oA|apply oB));exact rfl;intro K hK)|(refine hK _ ?_;clear hK K)|((with_reducible (first|apply oG|apply oH));iterate 3 exact rfl)|((with_reducible apply oI);(iterate 2 exact rfl);intro K hK)|(with_reducible (first|apply wI|apply wJ|apply wK)));try simp only [go_sem,simprocAttr,hb])|(with_reducible (first|apply oC|apply oJ|exact oK|apply wA|apply wB|apply wC hX hC|apply wD hX hC|apply wE hX hC af|apply wF hX hC af|apply wG|apply wH|apply And.intro))|((with_reducible refine oD ?_ ?_);kernel_rfl)|((with_reducible (first|apply oE|apply oF));(iterate 3 exact rfl);all_goals (intro h;first|(exact absurd h (by decide))|((try simp only [go_sem,simprocAttr,hb] at h);(try with_reducible intro K hK);simp only [go_sem,simprocAttr,hb])))|((first|((with_reducible apply wL);exact rfl)|((with_reducible apply wM);exact rfl));all_goals (try ((with_reducible intro h);first|(exact absurd h (by decide))|(try simp only [go_sem,simprocAttr,hb] at h))))|omega|((first|refine aa hX hC hP (cI g hm) rfl rfl rfl (by simp only [go_sem,simprocAttr,hb]) rfl ?_|(refine ah hX hC hP (bh way x bP) rfl rfl rfl ?_ ?_ ?_ ?_;iterate 3 (focus (simp only [go_sem,simprocAttr,hb];done)))|(refine ah hX hC hP (bh way (a:Int) bP) rfl rfl rfl ?_ ?_ ?_ ?_;iterate 3 (focus (simp only [go_sem,simprocAttr,hb];done))));try simp only [go_sem,simprocAttr,hb])|(intro h))
      rw [FG,tr,hidx];rfl
   ·have hi:eO way x= -1:=by
     rcases eR (f:=fun y:Int=>decide (x=y)) (l:=way) 0 with ⟨h1,_⟩|⟨q,_,h2,h3,_⟩
     ·exact h1
     ·exact absurd (by rw [of_decide_eq_true h3,List.getD_eq_getElem?_getD,List.getElem?_eq_getElem h2];exact List.getElem_mem h2) hmem
    obtain ⟨a,rfl⟩:∃a:Nat,x=a:=⟨x.toNat,by omega⟩
    have EG:a<(gx g).n.toNat:=by simp only [gx];omega
    repeat' (first|((first|((with_reducible (first|apply oA|apply oB));exact rfl;intro K hK)|(refine hK _ ?_;clear hK K)|((with_reducible (first|apply oG|apply oH));iterate 3 exact rfl)|((with_reducible apply oI);(iterate 2 exact rfl);intro K hK)|(with_reducible (first|apply wI|apply wJ|apply wK)));try simp only [go_sem,simprocAttr,hi])|(with_reducible (first|apply oC|apply oJ|exact oK|apply wA|apply wB|apply wC hX hC|apply wD hX hC|apply wE hX hC af|apply wF hX hC af|apply wG|apply wH|apply And.intro))|((with_reducible refine oD ?_ ?_);kernel_rfl)|((with_reducible (first|apply oE|apply oF));(iterate 3 exact rfl);all_goals (intro h;first|(exact absurd h (by decide))|((try simp only [go_sem,simprocAttr,hi] at h);(try with_reducible intro K hK);simp only [go_sem,simprocAttr,hi])))|((first|((with_reducible apply wL);exact rfl)|((with_reducible apply wM);exact rfl));all_goals (try ((with_reducible intro h);first|(exact absurd h (by decide))|(try simp only [go_sem,simprocAttr,hi] at h))))|omega|((first|refine aa hX hC hP (cI g hm) rfl rfl rfl (by simp only [go_sem,simprocAttr,hi]) rfl ?_|(refine ah hX hC hP (bh way x bP) rfl rfl rfl ?_ ?_ ?_ ?_;iterate 3 (focus (simp only [go_sem,simprocAttr,hi];done)))|(refine ah hX hC hP (bh way (a:Int) bP) rfl rfl rfl ?_ ?_ ?_ ?_;iterate 3 (focus (simp only [go_sem,simprocAttr,hi];done))));try simp only [go_sem,simprocAttr,hi])|(intro h))
    refine aj (fun j:Nat=>j≤g.es.length) (fun j=>⟨[(1, .ptr 1 0),(4,eN a),(3, .d (sB (uQ g))),(5, .ref 39),(6,eN (dS g a j)),(7,eN j)], [(1, .box [eN g.n, .d (sE g.es)]),(39, .tip 3 1 ((way++ [(a:Int)]).map rI))]⟩) (fun j=>g.es.length - j) 0 (by simp) ?_ ?_
    ·refine Le.of ?_ ?_<;>simp [go_sem,simprocAttr,rI,dS]
    rintro j hj
    rcases Nat.lt_or_ge j g.es.length with hjl|LU
    ·have an:decide ((j:Int)<(g.es.length:Int))=true:=decide_eq_true (by omega)
     obtain ⟨⟨FE,mQ⟩,_⟩:=ee hm hjl
     have c7:dS g a (j+1)=if (g.es.getD j (0,0)).2=(a:Int)∧(uQ g).getD (g.es.getD j (0,0)).1.toNat false=true then min (dS g a j) (g.es.getD j (0,0)).1 else dS g a j:=mC
     repeat' (first|((first|((with_reducible (first|apply oA|apply oB));exact rfl;intro K hK)|(refine hK _ ?_;clear hK K)|((with_reducible (first|apply oG|apply oH));iterate 3 exact rfl)|((with_reducible apply oI);(iterate 2 exact rfl);intro K hK)|(with_reducible (first|apply wI|apply wJ|apply wK)));try simp only [go_sem,simprocAttr,an,hlf])|(with_reducible (first|apply oC|apply oJ|exact oK|apply wA|apply wB|apply wC hX hC|apply wD hX hC|apply wE hX hC af|apply wF hX hC af|apply wG|apply wH|apply And.intro))|((with_reducible refine oD ?_ ?_);kernel_rfl)|((with_reducible (first|apply oE|apply oF));(iterate 3 exact rfl);all_goals (intro h;first|(exact absurd h (by decide))|((try simp only [go_sem,simprocAttr,an,hlf] at h);(try with_reducible intro K hK);simp only [go_sem,simprocAttr,an,hlf])))|((first|((with_reducible apply wL);exact rfl)|((with_reducible apply wM);exact rfl));all_goals (try ((with_reducible intro h);first|(exact absurd h (by decide))|(try simp only [go_sem,simprocAttr,an,hlf] at h))))|omega|((first|refine aa hX hC hP (cI g hm) rfl rfl rfl (by simp only [go_sem,simprocAttr,an,hlf]) rfl ?_|(refine ah hX hC hP (bh way x bP) rfl rfl rfl ?_ ?_ ?_ ?_;iterate 3 (focus (simp only [go_sem,simprocAttr,an,hlf];done)))|(refine ah hX hC hP (bh way (a:Int) bP) rfl rfl rfl ?_ ?_ ?_ ?_;iterate 3 (focus (simp only [go_sem,simprocAttr,an,hlf];done))));try simp only [go_sem,simprocAttr,an,hlf])|(intro h))
     all_goals (first|rw [if_pos ⟨by assumption,by assumption⟩] at c7|rw [if_neg (fun e=>by first|exact absurd e.1 (by assumption)|simp_all)] at c7)
     all_goals (refine ⟨j+1,by omega, ?_,by omega⟩;refine Le.of ?_ ?_<;>simp [go_sem,simprocAttr,c7])
    ·have an:decide ((j:Int)<(g.es.length:Int))=false:=decide_eq_false (by omega)
     obtain rfl:j=g.es.length:=by omega
     repeat' (first|((first|((with_reducible (first|apply oA|apply oB));exact rfl;intro K hK)|(refine hK _ ?_;clear hK K)|((with_reducible (first|apply oG|apply oH));iterate 3 exact rfl)|((with_reducible apply oI);(iterate 2 exact rfl);intro K hK)|(with_reducible (first|apply wI|apply wJ|apply wK)));try simp only [go_sem,simprocAttr,an])|(with_reducible (first|apply oC|apply oJ|exact oK|apply wA|apply wB|apply wC hX hC|apply wD hX hC|apply wE hX hC af|apply wF hX hC af|apply wG|apply wH|apply And.intro))|((with_reducible refine oD ?_ ?_);kernel_rfl)|((with_reducible (first|apply oE|apply oF));(iterate 3 exact rfl);all_goals (intro h;first|(exact absurd h (by decide))|((try simp only [go_sem,simprocAttr,an] at h);(try with_reducible intro K hK);simp only [go_sem,simprocAttr,an])))|((first|((with_reducible apply wL);exact rfl)|((with_reducible apply wM);exact rfl));all_goals (try ((with_reducible intro h);first|(exact absurd h (by decide))|(try simp only [go_sem,simprocAttr,an] at h))))|omega|((first|refine aa hX hC hP (cI g hm) rfl rfl rfl (by simp only [go_sem,simprocAttr,an]) rfl ?_|(refine ah hX hC hP (bh way x bP) rfl rfl rfl ?_ ?_ ?_ ?_;iterate 3 (focus (simp only [go_sem,simprocAttr,an];done)))|(refine ah hX hC hP (bh way (a:Int) bP) rfl rfl rfl ?_ ?_ ?_ ?_;iterate 3 (focus (simp only [go_sem,simprocAttr,an];done))));try simp only [go_sem,simprocAttr,an])|(intro h))
     refine ⟨(way++ [(a:Int)],dS g a g.es.length),⟨wO.next EG hmem,o3 hm (Nat.le_refl _), ?_⟩, ?_, ?_⟩
     ·simp only
      rw [← hrun,iB EG hmem]
      simp only [mB]
      rw [if_neg hmem]
     ·refine Le.of ?_ ?_<;>simp [go_sem,simprocAttr]
     ·have:=iB EG hmem;simp only;omega
 ·have hb:decide ((k:Int)<g.n)=false:=decide_eq_false (by omega)
  have hst:Dj g=g.n:=by
   have:bN (fun b:Bool=>b) (uQ g)= -1:=cC false fun j hj=>hno j (by omega)
   unfold Dj;rw [this,if_pos (by omega)]
  have hne:decide ((k:Int)=g.n)=true:=decide_eq_true (by omega)
  repeat' (first|((first|((with_reducible (first|apply oA|apply oB));exact rfl;intro K hK)|(refine hK _ ?_;clear hK K)|((with_reducible (first|apply oG|apply oH));iterate 3 exact rfl)|((with_reducible apply oI);(iterate 2 exact rfl);intro K hK)|(with_reducible (first|apply wI|apply wJ|apply wK)));try simp only [go_sem,simprocAttr,hb,hne])|(with_reducible (first|apply oC|apply oJ|exact oK|apply wA|apply wB|apply wC hX hC|apply wD hX hC|apply wE hX hC af|apply wF hX hC af|apply wG|apply wH|apply And.intro))|((with_reducible refine oD ?_ ?_);kernel_rfl)|((with_reducible (first|apply oE|apply oF));(iterate 3 exact rfl);all_goals (intro h;first|(exact absurd h (by decide))|((try simp only [go_sem,simprocAttr,hb,hne] at h);(try with_reducible intro K hK);simp only [go_sem,simprocAttr,hb,hne])))|((first|((with_reducible apply wL);exact rfl)|((with_reducible apply wM);exact rfl));all_goals (try ((with_reducible intro h);first|(exact absurd h (by decide))|(try simp only [go_sem,simprocAttr,hb,hne] at h))))|omega|((first|refine aa hX hC hP (cI g hm) rfl rfl rfl (by simp only [go_sem,simprocAttr,hb,hne]) rfl ?_|(refine ah hX hC hP (bh way x bP) rfl rfl rfl ?_ ?_ ?_ ?_;iterate 3 (focus (simp only [go_sem,simprocAttr,hb,hne];done)))|(refine ah hX hC hP (bh way (a:Int) bP) rfl rfl rfl ?_ ?_ ?_ ?_;iterate 3 (focus (simp only [go_sem,simprocAttr,hb,hne];done))));try simp only [go_sem,simprocAttr,hb,hne])|(intro h))
  simp only [kT];rw [if_pos hst];rfl
end Go.Ab
end
section
namespace Go.Ab
open Go.Proofs
attribute [local congr] ACall.congr
set_option maxRecDepth 10000
def fN (g:Gr):Int × Int × List Int:=gN g (kT g) (b7 (·.2) g)
theorem wR {l:List Edge} {k:Nat} {x:Edge} :x∈l.take k↔∃j,j<k∧j<l.length∧l.getD j (0,0)=x:=by
 rw [List.mem_iff_getElem?]
 constructor
 ·rintro ⟨j,hj⟩
  rw [List.getElem?_take] at hj
  split at hj
  ·exact ⟨j,by assumption,(List.getElem?_eq_some_iff.1 hj).1,by rw [List.getD_eq_getElem?_getD,hj];rfl⟩
  ·cases hj
 ·rintro ⟨j,h1,h2,h3⟩
  refine ⟨j, ?_⟩
  rw [List.getElem?_take,if_pos h1,List.getElem?_eq_getElem h2]
  rw [List.getD_eq_getElem?_getD,List.getElem?_eq_getElem h2] at h3
  exact congrArg some h3
theorem sH (g:Gr) (hl0:g.es.length≤1000):Spec Tryz.prog 104 (Args [eG g]) [] (.tup [eN (fN g).1,eN (fN g).2.1, .d (sI (fN g).2.2)]) []:=by
 have hl:g.es.length≤9223372036854775807:=by omega
 (refine Spec.intro (C:=T.cfg [] []) (rs:= [.t 2, .t 3, .t 4]) (T.ai _ _) Tryz.func104 rfl rfl Tryz.ntmps104 Tryz.results104 (by simp [AObj.isNest]) (by simp [AObj.isNest]) (by kernel_rfl) ?_;intro X hX hP hC aH aI vals hA;refine ⟨_,by simp,hA, ?_⟩;have af:X.P.follows .mixedOrders=true:=(by rw [hP];exact T.mixed);clear aH aI)
 cases hm:aL g with
 |false=>
  repeat' (first|((first|((with_reducible (first|apply oA|apply oB));exact rfl;intro K hK)|(refine hK _ ?_;clear hK K)|((with_reducible (first|apply oG|apply oH));iterate 3 exact rfl)|((with_reducible apply oI);(iterate 2 exact rfl);intro K hK)|(with_reducible (first|apply wI|apply wJ|apply wK)));try simp only [go_sem,simprocAttr,hm])|(with_reducible (first|apply oC|apply oJ|exact oK|apply wA|apply wB|apply wC hX hC|apply wD hX hC|apply wE hX hC af|apply wF hX hC af|apply wG|apply wH|apply And.intro))|((with_reducible refine oD ?_ ?_);kernel_rfl)|((with_reducible (first|apply oE|apply oF));(iterate 3 exact rfl);all_goals (intro h;first|(exact absurd h (by decide))|((try simp only [go_sem,simprocAttr,hm] at h);(try with_reducible intro K hK);simp only [go_sem,simprocAttr,hm])))|((first|((with_reducible apply wL);exact rfl)|((with_reducible apply wM);exact rfl));all_goals (try ((with_reducible intro h);first|(exact absurd h (by decide))|(try simp only [go_sem,simprocAttr,hm] at h))))|omega|((first|refine aa hX hC hP (cM g hl) rfl rfl rfl (by simp only [go_sem,simprocAttr,hm]) rfl ?_|refine aa hX hC hP (dr g hm) rfl rfl rfl (by simp only [go_sem,simprocAttr,hm]) rfl ?_|refine aa hX hC hP (cw g true hl0 hn0) rfl rfl rfl (by simp only [go_sem,simprocAttr,hm]) rfl ?_);try simp only [go_sem,simprocAttr,hm])|(intro h))
  all_goals simp [fN,gN,hm]
 |true=>
 have hn:=aR hm
 have hn0:0≤g.n∧g.n≤1000:=by omega
 repeat' (first|((first|((with_reducible (first|apply oA|apply oB));exact rfl;intro K hK)|(refine hK _ ?_;clear hK K)|((with_reducible (first|apply oG|apply oH));iterate 3 exact rfl)|((with_reducible apply oI);(iterate 2 exact rfl);intro K hK)|(with_reducible (first|apply wI|apply wJ|apply wK)));try simp only [go_sem,simprocAttr,hm])|(with_reducible (first|apply oC|apply oJ|exact oK|apply wA|apply wB|apply wC hX hC|apply wD hX hC|apply wE hX hC af|apply wF hX hC af|apply wG|apply wH|apply And.intro))|((with_reducible refine oD ?_ ?_);kernel_rfl)|((with_reducible (first|apply oE|apply oF));(iterate 3 exact rfl);all_goals (intro h;first|(exact absurd h (by decide))|((try simp only [go_sem,simprocAttr,hm] at h);(try with_reducible intro K hK);simp only [go_sem,simprocAttr,hm])))|((first|((with_reducible apply wL);exact rfl)|((with_reducible apply wM);exact rfl));all_goals (try ((with_reducible intro h);first|(exact absurd h (by decide))|(try simp only [go_sem,simprocAttr,hm] at h))))|omega|((first|refine aa hX hC hP (cM g hl) rfl rfl rfl (by simp only [go_sem,simprocAttr,hm]) rfl ?_|refine aa hX hC hP (dr g hm) rfl rfl rfl (by simp only [go_sem,simprocAttr,hm]) rfl ?_|refine aa hX hC hP (cw g true hl0 hn0) rfl rfl rfl (by simp only [go_sem,simprocAttr,hm]) rfl ?_);try simp only [go_sem,simprocAttr,hm])|(intro h))
 refine aj (fun k:Nat=>k≤g.es.length∧∀j,j<k→decide ((g.es.getD j (0,0)).1=(g.es.getD j (0,0)).2)=false) (fun k=>⟨[(5,eN k),(1, .ptr 1 0)], [(1, .box [eN g.n, .d (sE g.es)])]⟩) (fun k=>g.es.length - k) 0 (by simp) ?_ ?_
 ·(refine Le.of ?_ ?_<;>simp [go_sem,simprocAttr,hm])
 rintro k ⟨hk,hno⟩
 rcases Nat.lt_or_ge k g.es.length with hlt|hge
 ·have an:decide ((k:Int)<(g.es.length:Int))=true:=decide_eq_true (by omega)
  repeat' (first|((first|((with_reducible (first|apply oA|apply oB));exact rfl;intro K hK)|(refine hK _ ?_;clear hK K)|((with_reducible (first|apply oG|apply oH));iterate 3 exact rfl)|((with_reducible apply oI);(iterate 2 exact rfl);intro K hK)|(with_reducible (first|apply wI|apply wJ|apply wK)));try simp only [go_sem,simprocAttr,hm,an])|(with_reducible (first|apply oC|apply oJ|exact oK|apply wA|apply wB|apply wC hX hC|apply wD hX hC|apply wE hX hC af|apply wF hX hC af|apply wG|apply wH|apply And.intro))|((with_reducible refine oD ?_ ?_);kernel_rfl)|((with_reducible (first|apply oE|apply oF));(iterate 3 exact rfl);all_goals (intro h;first|(exact absurd h (by decide))|((try simp only [go_sem,simprocAttr,hm,an] at h);(try with_reducible intro K hK);simp only [go_sem,simprocAttr,hm,an])))|((first|((with_reducible apply wL);exact rfl)|((with_reducible apply wM);exact rfl));all_goals (try ((with_reducible intro h);first|(exact absurd h (by decide))|(try simp only [go_sem,simprocAttr,hm,an] at h))))|omega|((first|refine aa hX hC hP (cM g hl) rfl rfl rfl (by simp only [go_sem,simprocAttr,hm,an]) rfl ?_|refine aa hX hC hP (dr g hm) rfl rfl rfl (by simp only [go_sem,simprocAttr,hm,an]) rfl ?_|refine aa hX hC hP (cw g true hl0 hn0) rfl rfl rfl (by simp only [go_sem,simprocAttr,hm,an]) rfl ?_);try simp only [go_sem,simprocAttr,hm,an])|(intro h))
  any_goals (
   have hlo:jv g=(k:Int):=dF (d:=(0,0)) hlt hno (decide_eq_true h)
   have hc:fN g=(13,jv g, []):=by
    simp only [fN,gN];rw [if_neg (by simp [hm]),if_pos (by omega)]
   rw [hc]<;>first|rfl|exact hlo.symm)
  refine ⟨k+1,⟨by omega,fun j hj=> ?_⟩, ?_,by omega⟩
  ·by_cases hjk:j=k
   ·subst hjk;exact h
   ·simpa using hno j (by omega)
  ·(refine Le.of ?_ ?_<;>simp [go_sem,simprocAttr,hm,an])
 ·have an:decide ((k:Int)<(g.es.length:Int))=false:=decide_eq_false (by omega)
  have hlo:¬0≤jv g:=by
   have:jv g= -1:=cC (0,0) fun j hj=>hno j (by omega)
   omega
  repeat' (first|((first|((with_reducible (first|apply oA|apply oB));exact rfl;intro K hK)|(refine hK _ ?_;clear hK K)|((with_reducible (first|apply oG|apply oH));iterate 3 exact rfl)|((with_reducible apply oI);(iterate 2 exact rfl);intro K hK)|(with_reducible (first|apply wI|apply wJ|apply wK)));try simp only [go_sem,simprocAttr,hm,an])|(with_reducible (first|apply oC|apply oJ|exact oK|apply wA|apply wB|apply wC hX hC|apply wD hX hC|apply wE hX hC af|apply wF hX hC af|apply wG|apply wH|apply And.intro))|((with_reducible refine oD ?_ ?_);kernel_rfl)|((with_reducible (first|apply oE|apply oF));(iterate 3 exact rfl);all_goals (intro h;first|(exact absurd h (by decide))|((try simp only [go_sem,simprocAttr,hm,an] at h);(try with_reducible intro K hK);simp only [go_sem,simprocAttr,hm,an])))|((first|((with_reducible apply wL);exact rfl)|((with_reducible apply wM);exact rfl));all_goals (try ((with_reducible intro h);first|(exact absurd h (by decide))|(try simp only [go_sem,simprocAttr,hm,an] at h))))|omega|((first|refine aa hX hC hP (cM g hl) rfl rfl rfl (by simp only [go_sem,simprocAttr,hm,an]) rfl ?_|refine aa hX hC hP (dr g hm) rfl rfl rfl (by simp only [go_sem,simprocAttr,hm,an]) rfl ?_|refine aa hX hC hP (cw g true hl0 hn0) rfl rfl rfl (by simp only [go_sem,simprocAttr,hm,an]) rfl ?_);try simp only [go_sem,simprocAttr,hm,an])|(intro h))
  clear hno an hk hge
  refine aj (fun k:Nat=>k≤g.es.length∧∀j,j<k→mA g j=false) (fun k=>⟨[(6,eN k),(1, .ptr 1 0)], [(1, .box [eN g.n, .d (sE g.es)])]⟩) (fun k=>g.es.length - k) 0 (by simp) ?_ ?_
  ·(refine Le.of ?_ ?_<;>simp [go_sem,simprocAttr])
  rintro k ⟨hk,FH⟩
  rcases Nat.lt_or_ge k g.es.length with hlt|hge
  ·have an:decide ((k:Int)<(g.es.length:Int))=true:=decide_eq_true (by omega)
   repeat' (first|((first|((with_reducible (first|apply oA|apply oB));exact rfl;intro K hK)|(refine hK _ ?_;clear hK K)|((with_reducible (first|apply oG|apply oH));iterate 3 exact rfl)|((with_reducible apply oI);(iterate 2 exact rfl);intro K hK)|(with_reducible (first|apply wI|apply wJ|apply wK)));try simp only [go_sem,simprocAttr,hm,an])|(with_reducible (first|apply oC|apply oJ|exact oK|apply wA|apply wB|apply wC hX hC|apply wD hX hC|apply wE hX hC af|apply wF hX hC af|apply wG|apply wH|apply And.intro))|((with_reducible refine oD ?_ ?_);kernel_rfl)|((with_reducible (first|apply oE|apply oF));(iterate 3 exact rfl);all_goals (intro h;first|(exact absurd h (by decide))|((try simp only [go_sem,simprocAttr,hm,an] at h);(try with_reducible intro K hK);simp only [go_sem,simprocAttr,hm,an])))|((first|((with_reducible apply wL);exact rfl)|((with_reducible apply wM);exact rfl));all_goals (try ((with_reducible intro h);first|(exact absurd h (by decide))|(try simp only [go_sem,simprocAttr,hm,an] at h))))|omega|((first|refine aa hX hC hP (cM g hl) rfl rfl rfl (by simp only [go_sem,simprocAttr,hm,an]) rfl ?_|refine aa hX hC hP (dr g hm) rfl rfl rfl (by simp only [go_sem,simprocAttr,hm,an]) rfl ?_|refine aa hX hC hP (cw g true hl0 hn0) rfl rfl rfl (by simp only [go_sem,simprocAttr,hm,an]) rfl ?_);try simp only [go_sem,simprocAttr,hm,an])|(intro h))
   refine aj (fun q:Nat=>q≤k∧∀j,j<q→¬g.es.getD j (0,0)=g.es.getD k (0,0)) (fun q=>⟨[(6,eN k),(7,eN q),(1, .ptr 1 0)], [(1, .box [eN g.n, .d (sE g.es)])]⟩) (fun q=>k - q) 0 (by simp) ?_ ?_
   ·(refine Le.of ?_ ?_<;>simp [go_sem,simprocAttr,hm,an])
   rintro q ⟨hq,hne⟩
   rcases Nat.lt_or_ge q k with KB|KB
   ·have bu:decide ((q:Int)<(k:Int))=true:=decide_eq_true (by omega)
    repeat' (first|((first|((with_reducible (first|apply oA|apply oB));exact rfl;intro K hK)|(refine hK _ ?_;clear hK K)|((with_reducible (first|apply oG|apply oH));iterate 3 exact rfl)|((with_reducible apply oI);(iterate 2 exact rfl);intro K hK)|(with_reducible (first|apply wI|apply wJ|apply wK)));try simp only [go_sem,simprocAttr,bu,jU])|(with_reducible (first|apply oC|apply oJ|exact oK|apply wA|apply wB|apply wC hX hC|apply wD hX hC|apply wE hX hC af|apply wF hX hC af|apply wG|apply wH|apply And.intro))|((with_reducible refine oD ?_ ?_);kernel_rfl)|((with_reducible (first|apply oE|apply oF));(iterate 3 exact rfl);all_goals (intro h;first|(exact absurd h (by decide))|((try simp only [go_sem,simprocAttr,bu,jU] at h);(try with_reducible intro K hK);simp only [go_sem,simprocAttr,bu,jU])))|((first|((with_reducible apply wL);exact rfl)|((with_reducible apply wM);exact rfl));all_goals (try ((with_reducible intro h);first|(exact absurd h (by decide))|(try simp only [go_sem,simprocAttr,bu,jU] at h))))|omega|((first|refine aa hX hC hP (cM g hl) rfl rfl rfl (by simp only [go_sem,simprocAttr,bu,jU]) rfl ?_|refine aa hX hC hP (dr g hm) rfl rfl rfl (by simp only [go_sem,simprocAttr,bu,jU]) rfl ?_|refine aa hX hC hP (cw g true hl0 hn0) rfl rfl rfl (by simp only [go_sem,simprocAttr,bu,jU]) rfl ?_);try simp only [go_sem,simprocAttr,bu,jU])|(intro h))
    any_goals (
     have Cw:mA g k=true:=decide_eq_true (wR.2 ⟨q,KB,by omega,h⟩)
     have JI:eS g=(k:Int):=dF (d:=0) (by simpa using hlt) (fun j hj=>by rw [fT (by omega)];exact FH j hj) (by rw [fT hlt];exact Cw)
     have hc:fN g=(14,eS g, []):=by
      simp only [fN,gN];rw [if_neg (by simp [hm]),if_neg hlo,if_pos (by omega)]
     rw [hc]<;>first|rfl|exact JI.symm)
    refine ⟨q+1,⟨by omega,fun j hj=> ?_⟩, ?_,by omega⟩
    ·by_cases hjk:j=q
     ·subst hjk;exact h
     ·exact hne j (by omega)
    ·refine Le.of ?_ ?_<;>simp [go_sem,simprocAttr]
   ·have bu:decide ((q:Int)<(k:Int))=false:=decide_eq_false (by omega)
    repeat' (first|((first|((with_reducible (first|apply oA|apply oB));exact rfl;intro K hK)|(refine hK _ ?_;clear hK K)|((with_reducible (first|apply oG|apply oH));iterate 3 exact rfl)|((with_reducible apply oI);(iterate 2 exact rfl);intro K hK)|(with_reducible (first|apply wI|apply wJ|apply wK)));try simp only [go_sem,simprocAttr,bu])|(with_reducible (first|apply oC|apply oJ|exact oK|apply wA|apply wB|apply wC hX hC|apply wD hX hC|apply wE hX hC af|apply wF hX hC af|apply wG|apply wH|apply And.intro))|((with_reducible refine oD ?_ ?_);kernel_rfl)|((with_reducible (first|apply oE|apply oF));(iterate 3 exact rfl);all_goals (intro h;first|(exact absurd h (by decide))|((try simp only [go_sem,simprocAttr,bu] at h);(try with_reducible intro K hK);simp only [go_sem,simprocAttr,bu])))|((first|((with_reducible apply wL);exact rfl)|((with_reducible apply wM);exact rfl));all_goals (try ((with_reducible intro h);first|(exact absurd h (by decide))|(try simp only [go_sem,simprocAttr,bu] at h))))|omega|((first|refine aa hX hC hP (cM g hl) rfl rfl rfl (by simp only [go_sem,simprocAttr,bu]) rfl ?_|refine aa hX hC hP (dr g hm) rfl rfl rfl (by simp only [go_sem,simprocAttr,bu]) rfl ?_|refine aa hX hC hP (cw g true hl0 hn0) rfl rfl rfl (by simp only [go_sem,simprocAttr,bu]) rfl ?_);try simp only [go_sem,simprocAttr,bu])|(intro h))
    refine ⟨k+1,⟨by omega,fun j hj=> ?_⟩, ?_,by omega⟩
    ·by_cases hjk:j=k
     ·subst hjk
      refine decide_eq_false fun h=> ?_
      obtain ⟨i,h1,_,h3⟩:=wR.1 h
      exact hne i (by omega) h3
     ·exact FH j (by omega)
    ·(refine Le.of ?_ ?_<;>simp [go_sem,simprocAttr,bu])
  ·have an:decide ((k:Int)<(g.es.length:Int))=false:=decide_eq_false (by omega)
   have Cw:¬0≤eS g:=by
    have:eS g= -1:=cC 0 fun j hj=>by
     rw [List.length_range] at hj
     rw [fT hj];exact FH j (by omega)
    omega
   repeat' (first|((first|((with_reducible (first|apply oA|apply oB));exact rfl;intro K hK)|(refine hK _ ?_;clear hK K)|((with_reducible (first|apply oG|apply oH));iterate 3 exact rfl)|((with_reducible apply oI);(iterate 2 exact rfl);intro K hK)|(with_reducible (first|apply wI|apply wJ|apply wK)));try simp only [go_sem,simprocAttr,hm,an])|(with_reducible (first|apply oC|apply oJ|exact oK|apply wA|apply wB|apply wC hX hC|apply wD hX hC|apply wE hX hC af|apply wF hX hC af|apply wG|apply wH|apply And.intro))|((with_reducible refine oD ?_ ?_);kernel_rfl)|((with_reducible (first|apply oE|apply oF));(iterate 3 exact rfl);all_goals (intro h;first|(exact absurd h (by decide))|((try simp only [go_sem,simprocAttr,hm,an] at h);(try with_reducible intro K hK);simp only [go_sem,simprocAttr,hm,an])))|((first|((with_reducible apply wL);exact rfl)|((with_reducible apply wM);exact rfl));all_goals (try ((with_reducible intro h);first|(exact absurd h (by decide))|(try simp only [go_sem,simprocAttr,hm,an] at h))))|omega|((first|refine aa hX hC hP (cM g hl) rfl rfl rfl (by simp only [go_sem,simprocAttr,hm,an]) rfl ?_|refine aa hX hC hP (dr g hm) rfl rfl rfl (by simp only [go_sem,simprocAttr,hm,an]) rfl ?_|refine aa hX hC hP (cw g true hl0 hn0) rfl rfl rfl (by simp only [go_sem,simprocAttr,hm,an]) rfl ?_);try simp only [go_sem,simprocAttr,hm,an])|(intro h))
   all_goals (
    have hc:fN g=if 0<(kT g).length then (15,0,kT g) else if 1<(b7 (jZ false) g).length then (16,0,(b7 (jZ false) g).take 2) else (0,0, []):=by
     show gN g (kT g) (b7 (jZ false) g)=_
     simp only [gN];rw [if_neg (by simp [hm]),if_neg hlo,if_neg Cw]
    first|rw [if_pos (by omega)] at hc|(rw [if_neg (by omega)] at hc;first|rw [if_pos (by omega)] at hc|rw [if_neg (by omega)] at hc)
    rw [hc]<;>first|rfl|simp only [List.map_take])
end Go.Ab
end
section
namespace Go.Ab
def Ord (g:Gr) (out:List Int):Prop:=∀p,p<out.length→∀i,i<g.es.length→hd g i=out.getD p 0→tl g i∈out.take p
theorem kU {l r:List Int} {p:Nat} (h:p<l.length):(l++r).getD p 0=l.getD p 0:=by
 rw [List.getD_eq_getElem?_getD,List.getD_eq_getElem?_getD,List.getElem?_append_left h]
theorem Ord.next {g:Gr} {out:List Int} (h:Ord g out) {x:Nat} (hb:∀i,i<g.es.length→hd g i=x→tl g i∈out):Ord g (out++ [(x:Int)]):=by
 intro p hp i hi hh
 rw [List.length_append,List.length_singleton] at hp
 by_cases fA:p<out.length
 ·rw [kU fA] at hh
  have:=h p fA i hi hh
  rw [List.take_append_of_le_length (by omega)]
  exact this
 ·have hpe:p=out.length:=by omega
  subst hpe
  rw [List.getD_eq_getElem?_getD,List.getElem?_append_right (by omega)] at hh
  simp at hh
  rw [List.take_append_of_le_length (by omega),List.take_of_length_le (by omega)]
  exact hb i hi hh
theorem qU {g:Gr} (hm:aL g=true):∀f out,ef g out→Ord g out→left g out≤f→ef g (sF g f out)∧Ord g (sF g f out)∧eO (cB g (sF g f out)) 0<0
 |f,out,hP,hO,hl=>by
  rcases HF (g:=g) out with hx|⟨x,hx,FC,hw⟩
  ·rw [wN (by omega)];exact ⟨hP,hO,by omega⟩
  ·obtain ⟨KC,_,hb⟩:=hP.next hm FC hw
   have hn:=tc hP KC
   cases f with
   |zero=>omega
   |succ f=>
    have:=qU hm f (out++ [(x:Int)]) KC (hO.next hb) (by omega)
    simp only [sF,hx]
    rw [if_neg (by omega)]
    exact this
theorem fV {g:Gr} (hm:aL g=true):ef g (aN g)∧Ord g (aN g)∧eO (cB g (aN g)) 0<0:=
 qU hm _ _ (ef.nil g) (fun p hp=>by simp at hp) (by rw [nv];exact Nat.le_refl _)
theorem oo {g:Gr} (hm:aL g=true) {y:Nat} (hy:y<g.n.toNat):0<wt g (aN g) y↔(y:Int)∉aN g:=by
 obtain ⟨_,_,hi⟩:=fV hm
 constructor
 ·intro h hin;simp [wt,hin] at h
 ·intro h
  have h0:wt g (aN g) y≠0:=by
   intro e
   rcases eR (f:=fun y:Int=>decide (0=y)) (l:=cB g (aN g)) 0 with ⟨_,h2⟩|⟨k,h1,_⟩
   ·have:=h2 _ (List.mem_of_getElem? (jV hy))
    rw [e] at this;simp at this
   ·have:eO (cB g (aN g)) 0=k:=h1
    omega
  have:0≤wt g (aN g) y:=by simp only [wt,h,if_false];omega
  omega
theorem qV {g:Gr} {l:List Bool} {j y:Nat} (h:y<g.n.toNat):(ew g l j).getD y false=(List.range j).any fun i=>decide (hd g i=(y:Int))&&(l.getD (tl g i).toNat false&&l.getD (hd g i).toNat false):=by
 simp [ew,List.getD_eq_getElem?_getD,List.getElem?_range h]
theorem qW {g:Gr} (hm:aL g=true):∀k y,y<g.n.toNat→(y:Int)∉aN g→(fk g k).getD y false=true
 |0,y,hy,_=>by simp [fk,kR,List.getD_eq_getElem?_getD,List.getElem?_range hy];omega
 |k+1,y,hy,h=>by
  have hw:=(oo hm hy).2 h
  simp only [wt,h,if_false] at hw
  obtain ⟨i,hi,hp⟩:=List.countP_pos_iff.1 (Int.natCast_pos.1 hw)
  simp only [Bool.and_eq_true,decide_eq_true_eq,Bool.not_eq_true',decide_eq_false_iff_not] at hp
  have hil:=List.mem_range.1 hi
  obtain ⟨⟨h1,h2⟩,_⟩:=ee hm hil
  have ht:(g.es.getD i (0,0)).1=tl g i:=rfl
  rw [ht] at h1 h2
  have e:((tl g i).toNat:Int)=tl g i:=by omega
  have g1:=qW hm k (tl g i).toNat (by omega) (by rw [e];exact hp.2)
  have g2:=qW hm k y hy h
  show (ew g (fk g k) g.es.length).getD y false=true
  rw [qV hy,List.any_eq_true]
  refine ⟨i,hi, ?_⟩
  rw [hp.1,Int.toNat_natCast,g1,g2];simp
theorem y9 {g:Gr} (hm:aL g=true):∀k p,p<k→p<(aN g).length→(fk g k).getD ((aN g).getD p 0).toNat false=false
 |0,p,h,_=>by omega
 |k+1,p,h,hp=>by
  obtain ⟨hP,hO,_⟩:=fV hm
  have hr:=hP.lo _ (gA hp)
  obtain ⟨y,hy⟩:∃y:Nat,(aN g).getD p 0=y:=⟨((aN g).getD p 0).toNat,by omega⟩
  have LV:y<g.n.toNat:=by omega
  rw [hy,Int.toNat_natCast]
  show (ew g (fk g k) g.es.length).getD y false=false
  rw [qV LV,List.any_eq_false]
  intro i hi
  have hil:=List.mem_range.1 hi
  simp only [Bool.and_eq_true,decide_eq_true_eq]
  rintro ⟨h1,h2,_⟩
  have ht:=hO p hp i hil (by rw [h1,hy])
  rw [List.mem_iff_getElem?] at ht
  obtain ⟨q,hq⟩:=ht
  rw [List.getElem?_take] at hq
  split at hq
  ·rename_i LW
   have:=y9 hm k q (by omega) (by omega)
   rw [List.getD_eq_getElem?_getD (l:=aN g),hq] at this
   rw [Option.getD_some,h2] at this
   cases this
  ·cases hq
theorem CA {g:Gr} (hm:aL g=true) {y:Nat} (hy:y<g.n.toNat):(uQ g).getD y false=true↔(y:Int)∉aN g:=by
 constructor
 ·intro h hin
  obtain ⟨hP,_,_⟩:=fV hm
  obtain ⟨p,hp,e⟩:=List.getElem_of_mem hin
  have hl:=hP.fuel
  have:=y9 hm g.n.toNat p (by omega) hp
  rw [List.getD_eq_getElem?_getD (l:=aN g),List.getElem?_eq_getElem hp,Option.getD_some,e,Int.toNat_natCast] at this
  have h2:(fk g g.n.toNat).getD y false=true:=h
  rw [this] at h2;cases h2
 ·intro h;exact qW hm _ y hy h
theorem CB {g:Gr} (hm:aL g=true) {y:Nat} (hy:y<g.n.toNat):(uQ g).getD y false=decide (0<(cB g (aN g)).getD y 0):=by
 rw [kO hy,Bool.eq_iff_iff,CA hm hy,decide_eq_true_eq,oo hm hy]
theorem start_eq {g:Gr} (hm:aL g=true):(bN (fun n=>decide (0<n)) (cB g (aN g))= -1∧Dj g=g.n)∨∃a:Nat,a<g.n.toNat∧bN (fun n=>decide (0<n)) (cB g (aN g))=a∧Dj g=a∧(a:Int)∉aN g:=by
 have hlf:(uQ g).length=g.n.toNat:=leftK_length
 rcases eR (f:=fun n:Int=>decide (0<n)) (l:=cB g (aN g)) 0 with ⟨h1,h2⟩|⟨k,h1,h2,h3,h4⟩
 ·refine .inl ⟨h1, ?_⟩
  have:bN (fun b:Bool=>b) (uQ g)= -1:=cC false fun j hj=>by
   rw [hlf] at hj
   rw [CB hm hj]
   exact h2 _ (by rw [List.getD_eq_getElem?_getD,jV hj];exact List.mem_of_getElem? (jV hj))
  unfold Dj;rw [this,if_pos (by omega)]
 ·rw [wts_length] at h2
  refine .inr ⟨k,h2,h1, ?_, ?_⟩
  ·have:bN (fun b:Bool=>b) (uQ g)=k:=dF (d:=false) (by omega) (fun j hj=>by
    rw [CB hm (by omega)];exact h4 j hj) (by rw [CB hm h2];exact h3)
   unfold Dj;rw [this,if_neg (by omega)]
  ·rw [← oo hm h2]
   rw [kO h2] at h3
   exact of_decide_eq_true h3
def Q (g:Gr) (a:Nat) (t:Int):Prop:=∃i,i<g.es.length∧hd g i=(a:Int)∧tl g i=t∧t∉aN g
theorem cr {g:Gr} (hm:aL g=true) {i:Nat} (hi:i<g.es.length):0≤tl g i∧tl g i<g.n:=(ee hm hi).1
theorem cD {g:Gr} (hm:aL g=true) {i:Nat} (hi:i<g.es.length):0≤hd g i∧hd g i<g.n:=(ee hm hi).2
theorem Ax {g:Gr} (hm:aL g=true) {i:Nat} (hi:i<g.es.length):0<(cB g (aN g)).getD (tl g i).toNat 0↔tl g i∉aN g:=by
 have h:=cr hm hi
 have e:((tl g i).toNat:Int)=tl g i:=by omega
 rw [kO (by omega),oo hm (by omega),e]
theorem o4 {g:Gr} (hm:aL g=true):∀(l:List Int) (b:Int),(∀e∈l,∃i:Nat,e=i∧i<g.es.length)→
 (b= -1∨0≤b)→(l.foldl (fh g (cB g (aN g))) b=b∨∃i:Nat,(i:Int)∈l∧tl g i∉aN g∧l.foldl (fh g (cB g (aN g))) b=tl g i)∧(0≤b→l.foldl (fh g (cB g (aN g))) b≤b)∧
   (∀i:Nat,(i:Int)∈l→tl g i∉aN g→0≤l.foldl (fh g (cB g (aN g))) b∧l.foldl (fh g (cB g (aN g))) b≤tl g i)
 | [],b,_,_=>⟨.inl rfl,fun _=>Int.le_refl _,by simp⟩
 |e::l,b,he,hb=>by
  obtain ⟨i,rfl,hi⟩:=he e List.mem_cons_self
  have htr:=cr hm hi
  have hw:=Ax hm hi
  have hstep:fh g (cB g (aN g)) b (i:Int)=if tl g i∉aN g∧(b<0∨tl g i<b) then tl g i else b:=by
   simp only [fh,Int.toNat_natCast,hw]
  have hb':fh g (cB g (aN g)) b (i:Int)= -1∨0≤fh g (cB g (aN g)) b (i:Int):=by
   rw [hstep];split
   ·exact .inr htr.1
   ·exact hb
  obtain ⟨h1,h2,h3⟩:=o4 hm l (fh g (cB g (aN g)) b (i:Int)) (fun e h=>he e (List.mem_cons_of_mem _ h)) hb'
  simp only [List.foldl_cons]
  generalize hr:l.foldl (fh g (cB g (aN g))) (fh g (cB g (aN g)) b (i:Int))=r at h1 h2 h3 ⊢
  refine ⟨?_, ?_, ?_⟩
  ·rcases h1 with h1|⟨j,hj,h4,h5⟩
   ·rw [hstep] at h1
    split at h1
    ·rename_i hc
     exact .inr ⟨i,by simp,hc.1,h1⟩
    ·exact .inl h1
   ·exact .inr ⟨j,by simp [hj],h4,h5⟩
  ·intro h0
   rw [hstep] at h2
   split at h2
   ·rename_i hc;have:=h2 htr.1;omega
   ·exact h2 h0
  ·intro j hj hjn
   rcases List.mem_cons.1 hj with hj|hj
   ·have:j=i:=Int.ofNat.inj hj
    subst this
    rw [hstep] at h1 h2
    split at h1
    ·rename_i hc
     rw [if_pos hc] at h2
     have:=h2 htr.1
     rcases h1 with h1|⟨q,hq,h4,h5⟩
     ·omega
     ·obtain ⟨i',e',hi'⟩:=he q (List.mem_cons_of_mem _ hq)
      have:q=i':=Int.ofNat.inj e'
      subst this
      have:=cr hm hi';omega
    ·rename_i hc
     rw [if_neg hc] at h2
     have F3:¬(b<0∨tl g j<b):=fun h=>hc ⟨hjn,h⟩
     have:=h2 (by omega)
     rcases h1 with h1|⟨q,hq,h4,h5⟩
     ·omega
     ·obtain ⟨i',e',hi'⟩:=he q (List.mem_cons_of_mem _ hq)
      have:q=i':=Int.ofNat.inj e'
      subst this
      have:=cr hm hi';omega
   ·exact h3 j hj hjn
theorem qX {g:Gr} (hm:aL g=true) {a:Nat} (h:∃t,Q g a t):Q g a (iQ g (cB g (aN g)) a)∧∀t,Q g a t→iQ g (cB g (aN g)) a≤t:=by
 have hin:∀i,i<g.es.length→hd g i=(a:Int)→(i:Int)∈om g a:=by
  intro i hi hh
  simp only [om,fc,List.mem_map,List.mem_filter,List.mem_range,decide_eq_true_eq]
  exact ⟨i,⟨hi,hh⟩,rfl⟩
 obtain ⟨h1,_,h3⟩:=o4 hm (om g a) (-1) Cv (.inl rfl)
 have hG:iQ g (cB g (aN g)) a=(om g a).foldl (fh g (cB g (aN g))) (-1):=by simp [iQ,th]
 rw [← hG] at h1 h3
 have hle:∀t,Q g a t→0≤iQ g (cB g (aN g)) a∧iQ g (cB g (aN g)) a≤t:=by
  rintro t ⟨i,h4,h5,rfl,h6⟩
  exact h3 i (hin i h4 h5) h6
 obtain ⟨t,ht⟩:=h
 have h0:=(hle t ht).1
 refine ⟨?_,fun t ht=>(hle t ht).2⟩
 rcases h1 with h1|⟨i,hi,h4,h5⟩
 ·omega
 ·obtain ⟨i',e',hi',hh⟩:=uP hi
  have:i=i':=Int.ofNat.inj e'
  subst this
  exact ⟨i,hi',hh,h5.symm,by rw [h5];exact h4⟩
theorem qY {g:Gr} (hm:aL g=true) {a:Nat} :∀k,k≤g.es.length→(dS g a k=g.n∨Q g a (dS g a k))∧dS g a k≤g.n∧∀i,i<k→hd g i=(a:Int)→tl g i∉aN g→dS g a k≤tl g i
 |0,_=>⟨.inl rfl,Int.le_refl _,by simp⟩
 |k+1,hk=>by
  obtain ⟨h1,h2,h3⟩:=qY hm (a:=a) k (by omega)
  have htr:=cr hm (i:=k) (by omega)
  have e:((tl g k).toNat:Int)=tl g k:=by omega
  have hlf:=CA hm (y:=(tl g k).toNat) (by omega)
  rw [e] at hlf
  rw [mC]
  unfold uR
  split
  ·rename_i hc0
   have hc:hd g k=(a:Int)∧tl g k∉aN g:=⟨hc0.1,hlf.1 hc0.2⟩
   refine ⟨?_,by omega, ?_⟩
   ·by_cases hle:dS g a k≤tl g k
    ·rw [Int.min_eq_left hle];exact h1
    ·rw [Int.min_eq_right (by omega)];exact .inr ⟨k,by omega,hc.1,rfl,hc.2⟩
   ·intro i hi hh hn
    by_cases hik:i=k
    ·subst hik;omega
    ·have:=h3 i (by omega) hh hn;omega
  ·rename_i hc
   refine ⟨h1,h2, ?_⟩
   intro i hi hh hn
   by_cases hik:i=k
   ·subst hik;exact absurd ⟨hh,hlf.2 hn⟩ hc
   ·exact h3 i (by omega) hh hn
theorem back_eq {g:Gr} (hm:aL g=true) {a:Nat} (h:∃t,Q g a t):iQ g (cB g (aN g)) a=dS g a g.es.length∧Q g a (dS g a g.es.length):=by
 obtain ⟨h1,h2⟩:=qX hm h
 obtain ⟨h3,h4,h5⟩:=qY hm (a:=a) g.es.length (Nat.le_refl _)
 have hb:dS g a g.es.length≤iQ g (cB g (aN g)) a:=by
  obtain ⟨i,h6,h7,h8,h9⟩:=h1
  rw [← h8] at h9 ⊢
  exact h5 i h6 h7 h9
 have hlt:iQ g (cB g (aN g)) a<g.n:=by
  obtain ⟨i,h6,h7,h8,h9⟩:=h1
  rw [← h8];exact (cr hm h6).2
 rcases h3 with h3|h3
 ·omega
 ·exact ⟨by have:=h2 _ h3;omega,h3⟩
theorem FI {g:Gr} (hm:aL g=true) {a:Nat} (ha:a<g.n.toNat) (h:(a:Int)∉aN g):∃t,Q g a t:=by
 have hw:=(oo hm ha).2 h
 simp only [wt,h,if_false] at hw
 obtain ⟨i,hi,hp⟩:=List.countP_pos_iff.1 (Int.natCast_pos.1 hw)
 simp only [Bool.and_eq_true,decide_eq_true_eq,Bool.not_eq_true',decide_eq_false_iff_not] at hp
 exact ⟨tl g i,i,List.mem_range.1 hi,hp.1,rfl,hp.2⟩
theorem CC {g:Gr} (hm:aL g=true):∀(f f':Nat) (way:List Int) (a:Nat),way.Nodup→a<g.n.toNat→(a:Int)∉aN g→left g way≤f→left g way≤f'→
 jX g (cB g (aN g)) f way a=mB g f' way a∧(0≤(mB g f' way a).2∧(mB g f' way a).2∈(mB g f' way a).1∧(mB g f' way a).1.Nodup)
 |f,f',way,a,hd,ha,hn,h1,h2=>by
  by_cases hmem:(a:Int)∈way
  ·rw [ju (.inr hmem),wQ hmem]
   exact ⟨rfl,by simp only;omega,hmem,hd⟩
  ·have hla:=iB ha hmem
   cases f with
   |zero=>omega
   |succ f=>
    cases f' with
    |zero=>omega
    |succ f'=>
     obtain ⟨hb,hq⟩:=back_eq hm (FI hm ha hn)
     obtain ⟨i,hi,_,ht,EH⟩:=hq
     have htr:=cr hm hi
     rw [ht] at htr
     obtain ⟨b,HG⟩:∃b:Nat,dS g a g.es.length=b:=⟨(dS g a g.es.length).toNat,by omega⟩
     rw [HG] at hb EH htr
     have hd':(way++ [(a:Int)]).Nodup:=by
      rw [List.nodup_append]
      refine ⟨hd,by simp, ?_⟩
      intro x hx y hy e
      simp at hy
      rw [← hy, ← e] at hmem;exact hmem hx
     have ih:=CC hm f f' (way++ [(a:Int)]) b hd' (by omega) EH (by omega) (by omega)
     have e1:jX g (cB g (aN g)) (f+1) way a=jX g (cB g (aN g)) f (way++ [(a:Int)]) b:=by
      simp only [jX];rw [if_neg (by intro h;rcases h with h|h;omega;exact hmem h),hb]
     have e2:mB g (f'+1) way a=mB g f' (way++ [(a:Int)]) b:=by
      simp only [mB];rw [if_neg hmem,HG]
     rw [e1,e2];exact ih
theorem uT {g:Gr} {way:List Int} :left g way≤g.n.toNat:=by
 unfold left
 have:=List.countP_le_length (p:=fun y:Nat=> !decide ((y:Int)∈way)) (l:=List.range g.n.toNat)
 simpa using this
theorem qZ {l:List Int} (h:l.Nodup) {i j:Nat} (hi:i<l.length) (hj:j<l.length) (e:l.getD i 0=l.getD j 0):i=j:=by
 rw [List.getD_eq_getElem?_getD,List.getD_eq_getElem?_getD,List.getElem?_eq_getElem hi,List.getElem?_eq_getElem hj] at e
 exact (List.getElem_inj h).1 e
theorem CD {l:List Int} {i:Nat} (hi:i<l.length):l.reverse.getD i 0=l.getD (l.length - 1 - i) 0:=by
 rw [List.getD_eq_getElem?_getD,List.getD_eq_getElem?_getD,List.getElem?_reverse hi]
theorem D2 {l:List Int} (hd:l.Nodup) (h0:0<l.length):kj l.reverse=tr l:=by
 obtain ⟨m,vn,hm2,Jy⟩:=dG (iC h0)
 have Iv:0<l.reverse.length:=by simpa using h0
 obtain ⟨k,xA,hk2,HE⟩:=dG (iC Iv)
 have hmin:gT l.reverse=gT l:=by
  have h1:=uS (List.mem_reverse.2 (iC h0))
  have h2:=uS (List.mem_reverse.1 (iC Iv))
  omega
 rw [List.length_reverse] at hk2
 have hk:l.length - 1 - k=m:=qZ hd (by omega) hm2 (by rw [← CD hk2,HE,Jy,hmin])
 have e1:kj l.reverse=l.reverse.drop k++l.reverse.take k:=by
  simp only [kj,xA,Int.toNat_natCast]
 have e2:tr l=pI l m l.length:=by simp only [tr,vn,Int.toNat_natCast]
 rw [e1,e2]
 refine List.ext_getElem? fun i=> ?_
 by_cases hi:i<l.length
 ·have hr:(pI l m l.length)[i]? =some (l.getD ((m+l.length - i) % l.length) 0):=by
   simp [pI,List.getElem?_range hi]
  rw [hr]
  by_cases hik:i<l.length - k
  ·rw [List.getElem?_append_left (by simp;omega),List.getElem?_drop,List.getElem?_reverse (by omega)]
   have:(m+l.length - i) % l.length=m - i:=by
    rw [show m+l.length - i=(m - i)+l.length from by omega,Nat.add_mod_right,Nat.mod_eq_of_lt (by omega)]
   rw [this,show l.length - 1 - (k+i)=m - i from by omega,List.getD_eq_getElem?_getD,List.getElem?_eq_getElem (by omega)];rfl
  ·rw [List.getElem?_append_right (by simp;omega),List.length_drop,List.length_reverse,List.getElem?_take,if_pos (by omega),List.getElem?_reverse (by omega)]
   have:(m+l.length - i) % l.length=m+l.length - i:=Nat.mod_eq_of_lt (by omega)
   rw [this,show l.length - 1 - (i - (l.length - k))=m+l.length - i from by omega,List.getD_eq_getElem?_getD,List.getElem?_eq_getElem (by omega)];rfl
 ·rw [List.getElem?_eq_none (by simp;omega),List.getElem?_eq_none (by simp [pI];omega)]
theorem FJ {g:Gr} (hm:aL g=true):jt g=kT g:=by
 have hn:=aR hm
 rcases start_eq hm with ⟨h1,h2⟩|⟨a,ha,h1,h2,h3⟩
 ·have:js g=([], -1):=by
   unfold js;rw [h1];exact ju (.inl (by omega)) _
  simp only [jt,kT,this]
  rw [if_pos (by omega),if_pos h2]
 ·obtain ⟨he,h4,h5,h6⟩:=CC hm g.n.toNat (g.n.toNat+1) [] a (by simp) ha h3 uT (Nat.le_succ_of_le uT)
  have hw:js g=nw g:=by
   unfold js nw;rw [h1,h2];exact he
  have hr:mB g (g.n.toNat+1) [] a=nw g:=by unfold nw;rw [h2]
  rw [hr] at h4 h5 h6
  simp only [jt,kT,hw]
  rw [if_neg (by omega),if_neg (by omega)]
  obtain ⟨k,xA,hk2,_⟩:=dG h5
  rw [xA,Int.toNat_natCast]
  exact D2 (List.Pairwise.drop h6) (by simp;omega)
theorem FK (g:Gr):cA g=fN g:=by
 unfold cA fN
 cases hm:aL g with
 |false=>simp [gN,hm]
 |true=>rw [FJ hm]
end Go.Ab
end
section
namespace Go.Ab
end Go.Ab
end
section
namespace Go.Ab
open Go.Proofs
attribute [local congr] ACall.congr
set_option maxRecDepth 10000
def g0:Gr:=⟨3, [(0,1),(1,2),(2,1)]⟩
end Go.Ab
end
section
namespace Go.Ab
open Go.Proofs
attribute [local congr] ACall.congr
set_option maxRecDepth 10000
def Bg (g:Gr):Bool:=decide (g.n≤((aN g).length:Int))
def LX (g:Gr):List Int:=if Bg g then aN g else []
def fO (l:List Int) (n:Int):Bool:=decide ((l.length:Int)=n)&&(List.range n.toNat).all fun x:Nat=>decide ((x:Int)∈l)
theorem cO {l:List Int} {x:Int} :decide (eO l x<0)= !decide (x∈l):=by
 rw [Bool.eq_iff_iff]
 simp only [decide_eq_true_eq,Bool.not_eq_true',decide_eq_false_iff_not]
 constructor
 ·intro h hm
  obtain ⟨k,hk,_⟩:=dG hm
  omega
 ·intro h
  rcases eR (f:=fun y:Int=>decide (x=y)) (l:=l) 0 with ⟨h1,_⟩|⟨q,_,h2,h3,_⟩
  ·unfold eO;omega
  ·exact absurd (by rw [of_decide_eq_true h3];exact gA h2) h
theorem cm (l:List Int) (n:Int) (hl:l.length≤9223372036854775807):Spec Tryz.prog 163 (Args [.d (sI l),eN n]) [] (eB (fO l n)) []:=by
 (refine Spec.intro (C:=T.cfg [] []) (rs:= [.t 4]) (T.ai _ _) Tryz.func163 rfl rfl Tryz.ntmps163 Tryz.results163 (by simp [AObj.isNest]) (by simp [AObj.isNest]) (by kernel_rfl) ?_;intro X hX hP hC aH aI vals hA;refine ⟨_,by simp,hA, ?_⟩;have af:X.P.follows .mixedOrders=true:=(by rw [hP];exact T.mixed);clear aH aI)
 repeat' (first|((first|((with_reducible (first|apply oA|apply oB));exact rfl;intro K hK)|(refine hK _ ?_;clear hK K)|((with_reducible (first|apply oG|apply oH));iterate 3 exact rfl)|((with_reducible apply oI);(iterate 2 exact rfl);intro K hK)|(with_reducible (first|apply wI|apply wJ|apply wK)));try simp only [go_sem,simprocAttr,cO])|(with_reducible (first|apply oC|apply oJ|exact oK|apply wA|apply wB|apply wC hX hC|apply wD hX hC|apply wE hX hC af|apply wF hX hC af|apply wG|apply wH|apply And.intro))|((with_reducible refine oD ?_ ?_);kernel_rfl)|((with_reducible (first|apply oE|apply oF));(iterate 3 exact rfl);all_goals (intro h;first|(exact absurd h (by decide))|((try simp only [go_sem,simprocAttr,cO] at h);(try with_reducible intro K hK);simp only [go_sem,simprocAttr,cO])))|((first|((with_reducible apply wL);exact rfl)|((with_reducible apply wM);exact rfl));all_goals (try ((with_reducible intro h);first|(exact absurd h (by decide))|(try simp only [go_sem,simprocAttr,cO] at h))))|omega|((first|refine aa hX hC hP (bh l (k:Int) hl) rfl rfl rfl (by simp only [go_sem,simprocAttr,cO]) rfl ?_);try simp only [go_sem,simprocAttr,cO])|(intro h))
 ·have hne:¬(l.length:Int)=n:=by assumption
  simp [fO,hne]
 have JH:(l.length:Int)=n:=by assumption
 refine aj (fun k:Nat=>(k:Int)≤n∧∀j,j<k→(j:Int)∈l) (fun k=>⟨[(0, .d (sI l)),(1,eN n),(5,eN k)], []⟩) (fun k=>n.toNat - k) 0 (by simp;omega) ?_ ?_
 ·(refine ⟨bJ ?_,fun _ _ h=>h⟩;simp [go_sem,simprocAttr,cO])
 rintro k ⟨hk,hin⟩
 repeat' (first|((first|((with_reducible (first|apply oA|apply oB));exact rfl;intro K hK)|(refine hK _ ?_;clear hK K)|((with_reducible (first|apply oG|apply oH));iterate 3 exact rfl)|((with_reducible apply oI);(iterate 2 exact rfl);intro K hK)|(with_reducible (first|apply wI|apply wJ|apply wK)));try simp only [go_sem,simprocAttr,cO])|(with_reducible (first|apply oC|apply oJ|exact oK|apply wA|apply wB|apply wC hX hC|apply wD hX hC|apply wE hX hC af|apply wF hX hC af|apply wG|apply wH|apply And.intro))|((with_reducible refine oD ?_ ?_);kernel_rfl)|((with_reducible (first|apply oE|apply oF));(iterate 3 exact rfl);all_goals (intro h;first|(exact absurd h (by decide))|((try simp only [go_sem,simprocAttr,cO] at h);(try with_reducible intro K hK);simp only [go_sem,simprocAttr,cO])))|((first|((with_reducible apply wL);exact rfl)|((with_reducible apply wM);exact rfl));all_goals (try ((with_reducible intro h);first|(exact absurd h (by decide))|(try simp only [go_sem,simprocAttr,cO] at h))))|omega|((first|refine aa hX hC hP (bh l (k:Int) hl) rfl rfl rfl (by simp only [go_sem,simprocAttr,cO]) rfl ?_);try simp only [go_sem,simprocAttr,cO])|(intro h))
 ·have hlt:(k:Int)<n:=by assumption
  have hm:(List.range n.toNat).all (fun x:Nat=>decide ((x:Int)∈l))=false:=by
   rw [List.all_eq_false]
   exact ⟨k,List.mem_range.2 (by omega),by simpa using h⟩
  simp only [fO,hm,Bool.and_false]
 ·refine ⟨k+1,⟨by omega,fun j hj=> ?_⟩, ?_,by omega⟩
  ·by_cases hjk:j=k
   ·subst hjk;exact h
   ·exact hin j (by omega)
  ·(refine ⟨bJ ?_,fun _ _ h=>h⟩;simp [go_sem,simprocAttr,cO])
 ·have hm:(List.range n.toNat).all (fun x:Nat=>decide ((x:Int)∈l))=true:=by
   rw [List.all_eq_true]
   intro x hx
   exact decide_eq_true (hin x (by have:=List.mem_range.1 hx;omega))
  simp only [fO,hm,Bool.and_true]
  exact (decide_eq_true JH).symm
end Go.Ab
end
section
namespace Go.Ab
open Go.Proofs
attribute [local congr] ACall.congr
set_option maxRecDepth 10000
theorem count_le:∀(xs l:List Int),xs.Nodup→(∀x∈xs,x∈l)→xs.length≤l.countP (fun y=>decide (y∈xs))
 | [],_,_,_=>Nat.zero_le _
 |a::r,l,hd,h=>by
  obtain ⟨h1,h2⟩:=List.nodup_cons.1 hd
  have ih:=count_le r l h2 fun x hx=>h x (List.mem_cons_of_mem _ hx)
  have hp:=jW (p:=fun y=>decide (y∈a::r)) (q:=fun y=>decide (y∈r)) (r:=fun y=>decide (y=a)) (l:=l) (fun y _=>by
   by_cases hy:y=a
   ·subst hy;simp [h1]
   ·simp [hy])
  have ha:0<l.countP (fun y=>decide (y=a)):=List.countP_pos_iff.2 ⟨a,h a List.mem_cons_self,by simp⟩
  rw [hp,List.length_cons];omega
def gV (n:Nat):List Int:=(List.range n).map Int.ofNat
theorem dm {n:Nat} {x:Int} :x∈gV n↔0≤x∧x<n:=by
 simp only [gV,List.mem_map,List.mem_range]
 constructor
 ·rintro ⟨a,h,rfl⟩;simp;omega
 ·intro h;exact ⟨x.toNat,by omega,by simp;omega⟩
theorem j0 {n:Nat} :(gV n).Nodup:=by
 unfold gV
 exact List.Pairwise.map _ (fun a b h e=>h (Int.ofNat.inj e)) List.nodup_range
theorem bR {l:List Int} {n:Int} :fO l n=true↔(l.length:Int)=n∧∀x∈gV n.toNat,x∈l:=by
 simp only [fO,Bool.and_eq_true,decide_eq_true_eq,List.all_eq_true,List.mem_range]
 constructor
 ·rintro ⟨h1,h2⟩
  refine ⟨h1,fun x hx=> ?_⟩
  obtain ⟨a,b⟩:=dm.1 hx
  have:=h2 x.toNat (by omega)
  rwa [show ((x.toNat:Nat):Int)=x from by omega] at this
 ·rintro ⟨h1,h2⟩
  exact ⟨h1,fun x hx=>h2 _ (dm.2 (by omega))⟩
theorem q8 {l:List Int} {n:Int} (h:fO l n=true):∀x∈l,0≤x∧x<n:=by
 obtain ⟨h1,h2⟩:=bR.1 h
 have hc:=count_le (gV n.toNat) l j0 h2
 have hlen:(gV n.toNat).length=n.toNat:=by simp [gV]
 have he:l.countP (fun y=>decide (y∈gV n.toNat))=l.length:=by
  have:=List.countP_le_length (p:=fun y=>decide (y∈gV n.toNat)) (l:=l)
  omega
 intro x hx
 have:=List.countP_eq_length.1 he x hx
 have:=dm.1 (of_decide_eq_true this)
 omega
def wS (n:Nat) (l:List Int):Nat→List Int
 |0=>List.replicate n 0
 |k+1=>(wS n l k).set (l.getD k 0).toNat k
theorem atK_length {n:Nat} {l:List Int} :∀ {k:Nat},(wS n l k).length=n
 |0=>by simp [wS]
 |k+1=>by simp [wS,atK_length (k:=k)]
def CE (g:Gr) (l:List Int) (j:Nat):Bool:=(List.range j).all fun i=>decide ((wS g.n.toNat l l.length).getD (tl g i).toNat 0<(wS g.n.toNat l l.length).getD (hd g i).toNat 0)
def uU (g:Gr) (l:List Int):Bool:=fO l g.n&&CE g l g.es.length
attribute [go_sem] atK_length
end Go.Ab
end
section
namespace Go.Ab
def M5 (g:Gr) (out:List Int):Prop:=∀p,p<out.length→out.getD p 0=eO (cB g (out.take p)) 0∧0≤out.getD p 0
theorem za {g:Gr} (hm:aL g=true) (h:Bg g=true):fO (aN g) g.n=true:=by
 obtain ⟨hP,_,_⟩:=fV hm
 have hn:=aR hm
 have hf:=hP.fuel
 have hok:=of_decide_eq_true h
 refine bR.2 ⟨by omega,fun x hx=> ?_⟩
 obtain ⟨h1,h2⟩:=dm.1 hx
 have h0:(List.range g.n.toNat).countP (fun y:Nat=> !decide ((y:Int)∈aN g))=0:=by omega
 have:=List.countP_eq_zero.1 h0 x.toNat (List.mem_range.2 (by omega))
 rw [show ((x.toNat:Nat):Int)=x from by omega] at this
 simpa using this
theorem zf {g:Gr} (hm:aL g=true) (h:Bg g=false):∃y:Nat,y<g.n.toNat∧(y:Int)∉aN g:=by
 obtain ⟨hP,_,_⟩:=fV hm
 have hn:=aR hm
 have hf:=hP.fuel
 have hok:=of_decide_eq_false h
 have h0:0<(List.range g.n.toNat).countP (fun y:Nat=> !decide ((y:Int)∈aN g)):=by omega
 obtain ⟨y,hy,hp⟩:=List.countP_pos_iff.1 h0
 exact ⟨y,List.mem_range.1 hy,by simpa using hp⟩
theorem CF {g:Gr} {l:List Int} (h:uU g l=true) {i:Nat} (hi:i<g.es.length):(wS g.n.toNat l l.length).getD (tl g i).toNat 0<(wS g.n.toNat l l.length).getD (hd g i).toNat 0:=by
 simp only [uU,Bool.and_eq_true] at h
 have:=List.all_eq_true.1 h.2 i (List.mem_range.2 hi)
 exact of_decide_eq_true this
theorem q9 {n:Nat} {l:List Int} :∀ {k:Nat} {y:Nat},0≤(wS n l k).getD y 0
 |0,y=>by
  simp only [wS,List.getD_eq_getElem?_getD,List.getElem?_replicate]
  split<;>simp
 |k+1,y=>by
  have ih:=q9 (n:=n) (l:=l) (k:=k) (y:=y)
  simp only [wS,List.getD_eq_getElem?_getD,List.getElem?_set] at ih ⊢
  split
  ·split<;>simp
  ·exact ih
theorem uV {l:List Int} {i j:Nat} (hij:i<j) (hj:j<l.length) (e:l.getD i 0=l.getD j 0):∀x∈l,x∈l.eraseIdx i:=by
 intro x hx
 obtain ⟨k,hk,rfl⟩:=List.getElem_of_mem hx
 rw [List.mem_iff_getElem?]
 rcases Nat.lt_trichotomy k i with h|h|h
 ·exact ⟨k,by rw [List.getElem?_eraseIdx,if_pos h,List.getElem?_eq_getElem hk]⟩
 ·subst h
  refine ⟨j - 1, ?_⟩
  rw [List.getElem?_eraseIdx,if_neg (by omega),show j - 1+1=j from by omega,List.getElem?_eq_getElem hj]
  rw [List.getD_eq_getElem?_getD,List.getD_eq_getElem?_getD,List.getElem?_eq_getElem hk,List.getElem?_eq_getElem hj] at e
  exact congrArg some e.symm
 ·exact ⟨k - 1,by rw [List.getElem?_eraseIdx,if_neg (by omega),show k - 1+1=k from by omega,List.getElem?_eq_getElem hk]⟩
theorem j3 {l:List Int} {n:Int} (h:fO l n=true) {i j:Nat} (hi:i<l.length) (hj:j<l.length) (e:l.getD i 0=l.getD j 0):i=j:=by
 obtain ⟨h1,h2⟩:=bR.1 h
 have key:∀i j,i<j→j<l.length→l.getD i 0=l.getD j 0→False:=by
  intro i j hij hj e
  have hc:=count_le (gV n.toNat) (l.eraseIdx i) j0 fun x hx=>uV hij hj e x (h2 x hx)
  have hlen:(gV n.toNat).length=n.toNat:=by simp [gV]
  have hle:=List.countP_le_length (p:=fun y=>decide (y∈gV n.toNat)) (l:=l.eraseIdx i)
  rw [List.length_eraseIdx_of_lt (by omega)] at hle
  omega
 rcases Nat.lt_trichotomy i j with h|h|h
 ·exact (key i j h hj e).elim
 ·exact h
 ·exact (key j i h hi e.symm).elim
theorem uW {l:List Int} {n:Int} (h:fO l n=true) {p:Nat} :∀ {k:Nat},p<k→k≤l.length→(wS n.toNat l k).getD (l.getD p 0).toNat 0=p
 |0,hp,_=>by omega
 |k+1,hp,hk=>by
  have hlo:=q8 h
  have hp1:=hlo _ (gA (l:=l) (m:=p) (by omega))
  have xA:=hlo _ (gA (l:=l) (m:=k) (by omega))
  simp only [wS,List.getD_eq_getElem?_getD (l:=(wS n.toNat l k).set _ _),List.getElem?_set,atK_length]
  by_cases hpk:p=k
  ·subst hpk
   rw [if_pos rfl,if_pos (by omega)];rfl
  ·have hne:¬(l.getD k 0).toNat=(l.getD p 0).toNat:=fun e=>hpk (j3 h (i:=p) (j:=k) (by omega) (by omega) (by omega))
   rw [if_neg hne, ← List.getD_eq_getElem?_getD]
   exact uW h (by omega) (by omega)
theorem Ay {g:Gr} (hm:aL g=true) (h:Bg g=true):uU g (aN g)=true:=by
 have he:=za hm h
 obtain ⟨hP,hO,_⟩:=fV hm
 have hall:=(bR.1 he).2
 simp only [uU,he,Bool.true_and,CE,List.all_eq_true,List.mem_range,decide_eq_true_eq]
 intro i hi
 have hh:=cD hm hi
 obtain ⟨p,hp,e⟩:=List.getElem_of_mem (hall (hd g i) (dm.2 (by omega)))
 have e':(aN g).getD p 0=hd g i:=by rw [List.getD_eq_getElem?_getD,List.getElem?_eq_getElem hp];exact e
 have ht:=hO p hp i hi e'.symm
 rw [List.mem_iff_getElem?] at ht
 obtain ⟨q,hq⟩:=ht
 rw [List.getElem?_take] at hq
 split at hq
 ·rename_i LW
  have e2:(aN g).getD q 0=tl g i:=by rw [List.getD_eq_getElem?_getD,hq];rfl
  rw [← e', ← e2,uW he hp (Nat.le_refl _),uW he (by omega) (Nat.le_refl _)]
  omega
 ·cases hq
end Go.Ab
end
section
namespace Go.Ab
open Go.Proofs
attribute [local congr] ACall.congr
set_option maxRecDepth 10000
end Go.Ab
end
section
namespace Go.Ab
open Go.Proofs
attribute [local congr] ACall.congr
set_option maxRecDepth 10000
def gz:Gr:=⟨0, []⟩
def vz:D:= .pt [.sc (.int .i64 0), .sl 2 [], .sl 1 [], .sl 1 []]
def bp (f:Edge→Int) (g:Gr) (x:Int):List Int:=if 0≤x∧x<g.n then aZ f g.es g.es.length x else []
theorem rq (f:Edge→Int) (g:Gr) (hm:aL g=true) (x:Int):Spec Tryz.prog 98 (Args [.d (vw g), .d (.sl 1 (DZ f g)),eN x]) [] (.d (sI (bp f g x))) []:=by
 rw [ag]
 have hn:=aR hm
 have hl':(aZ f g.es g.es.length x).length≤1000000:=by have:=jx (f:=f) (es:=g.es) (k:=g.es.length) (x:=x);omega
 (refine Spec.intro (C:=T.cfg [] []) (rs:= [.t 6]) (T.ai _ _) Tryz.func98 rfl rfl Tryz.ntmps98 Tryz.results98 (by simp [AObj.isNest]) (by simp [AObj.isNest]) (by kernel_rfl) ?_;intro X hX hP hC aH aI vals hA;refine ⟨_,by simp,hA, ?_⟩;have af:X.P.follows .mixedOrders=true:=(by rw [hP];exact T.mixed);clear aH aI)
 by_cases hx:0≤x∧x<g.n
 ·have hv:=nu (f:=f) (g:=g) (x:=x.toNat) (by omega)
  have he:fc f g.es g.es.length x.toNat=aZ f g.es g.es.length x:=by rw [kQ,show ((x.toNat:Nat):Int)=x from by omega]
  rw [he] at hv
  have ak:decide (x<0)=false:=decide_eq_false (by omega)
  have an:decide (g.n≤x)=false:=decide_eq_false (by omega)
  have ht:bp f g x=aZ f g.es g.es.length x:=if_pos hx
  repeat' (first|((first|((with_reducible (first|apply oA|apply oB));exact rfl;intro K hK)|(refine hK _ ?_;clear hK K)|((with_reducible (first|apply oG|apply oH));iterate 3 exact rfl)|((with_reducible apply oI);(iterate 2 exact rfl);intro K hK)|(with_reducible (first|apply wI|apply wJ|apply wK)));try simp only [go_sem,simprocAttr,hv,ak,an])|(with_reducible (first|apply oC|apply oJ|exact oK|apply wA|apply wB|apply wC hX hC|apply wD hX hC|apply wE hX hC af|apply wF hX hC af|apply wG|apply wH|apply And.intro))|((with_reducible refine oD ?_ ?_);kernel_rfl)|((with_reducible (first|apply oE|apply oF));(iterate 3 exact rfl);all_goals (intro h;first|(exact absurd h (by decide))|((try simp only [go_sem,simprocAttr,hv,ak,an] at h);(try with_reducible intro K hK);simp only [go_sem,simprocAttr,hv,ak,an])))|((first|((with_reducible apply wL);exact rfl)|((with_reducible apply wM);exact rfl));all_goals (try ((with_reducible intro h);first|(exact absurd h (by decide))|(try simp only [go_sem,simprocAttr,hv,ak,an] at h))))|omega|((first|refine aa hX hC hP (oY (aZ f g.es g.es.length x) hl') rfl rfl rfl (by simp only [go_sem,simprocAttr,hv,ak,an]) rfl ?_);try simp only [go_sem,simprocAttr,hv,ak,an])|(intro h))
  simp [ht]
 ·have ht:bp f g x= []:=if_neg hx
  repeat' (first|((first|((with_reducible (first|apply oA|apply oB));exact rfl;intro K hK)|(refine hK _ ?_;clear hK K)|((with_reducible (first|apply oG|apply oH));iterate 3 exact rfl)|((with_reducible apply oI);(iterate 2 exact rfl);intro K hK)|(with_reducible (first|apply wI|apply wJ|apply wK)));try simp only [go_sem,simprocAttr,ht])|(with_reducible (first|apply oC|apply oJ|exact oK|apply wA|apply wB|apply wC hX hC|apply wD hX hC|apply wE hX hC af|apply wF hX hC af|apply wG|apply wH|apply And.intro))|((with_reducible refine oD ?_ ?_);kernel_rfl)|((with_reducible (first|apply oE|apply oF));(iterate 3 exact rfl);all_goals (intro h;first|(exact absurd h (by decide))|((try simp only [go_sem,simprocAttr,ht] at h);(try with_reducible intro K hK);simp only [go_sem,simprocAttr,ht])))|((first|((with_reducible apply wL);exact rfl)|((with_reducible apply wM);exact rfl));all_goals (try ((with_reducible intro h);first|(exact absurd h (by decide))|(try simp only [go_sem,simprocAttr,ht] at h))))|omega|((first|refine aa hX hC hP (oY (aZ f g.es g.es.length x) hl') rfl rfl rfl (by simp only [go_sem,simprocAttr,ht]) rfl ?_);try simp only [go_sem,simprocAttr,ht])|(intro h))
theorem iq (g:Gr) (hm:aL g=true) (x:Int):Spec Tryz.prog 45 (Args [.d (vw g),eN x]) [] (.d (sI (bp (·.1) g x))) []:=by
 (refine Spec.intro (C:=T.cfg [] []) (rs:= [.t 4]) (T.ai _ _) Tryz.func45 rfl rfl Tryz.ntmps45 Tryz.results45 (by simp [AObj.isNest]) (by simp [AObj.isNest]) (by kernel_rfl) ?_;intro X hX hP hC aH aI vals hA;refine ⟨_,by simp,hA, ?_⟩;have af:X.P.follows .mixedOrders=true:=(by rw [hP];exact T.mixed);clear aH aI)
 repeat' (first|((first|((with_reducible (first|apply oA|apply oB));exact rfl;intro K hK)|(refine hK _ ?_;clear hK K)|((with_reducible (first|apply oG|apply oH));iterate 3 exact rfl)|((with_reducible apply oI);(iterate 2 exact rfl);intro K hK)|(with_reducible (first|apply wI|apply wJ|apply wK)));try simp only [go_sem,simprocAttr,ag])|(with_reducible (first|apply oC|apply oJ|exact oK|apply wA|apply wB|apply wC hX hC|apply wD hX hC|apply wE hX hC af|apply wF hX hC af|apply wG|apply wH|apply And.intro))|((with_reducible refine oD ?_ ?_);kernel_rfl)|((with_reducible (first|apply oE|apply oF));(iterate 3 exact rfl);all_goals (intro h;first|(exact absurd h (by decide))|((try simp only [go_sem,simprocAttr,ag] at h);(try with_reducible intro K hK);simp only [go_sem,simprocAttr,ag])))|((first|((with_reducible apply wL);exact rfl)|((with_reducible apply wM);exact rfl));all_goals (try ((with_reducible intro h);first|(exact absurd h (by decide))|(try simp only [go_sem,simprocAttr,ag] at h))))|omega|((first|refine aa hX hC hP (rq (·.1) g hm x) rfl rfl rfl (by simp only [go_sem,simprocAttr,ag]) rfl ?_);try simp only [go_sem,simprocAttr,ag])|(intro h))
theorem jy (g:Gr) (hm:aL g=true) (x:Int):Spec Tryz.prog 172 (Args [.d (vw g),eN x]) [] (.d (sI (bp (·.2) g x))) []:=by
 (refine Spec.intro (C:=T.cfg [] []) (rs:= [.t 4]) (T.ai _ _) Tryz.func172 rfl rfl Tryz.ntmps172 Tryz.results172 (by simp [AObj.isNest]) (by simp [AObj.isNest]) (by kernel_rfl) ?_;intro X hX hP hC aH aI vals hA;refine ⟨_,by simp,hA, ?_⟩;have af:X.P.follows .mixedOrders=true:=(by rw [hP];exact T.mixed);clear aH aI)
 repeat' (first|((first|((with_reducible (first|apply oA|apply oB));exact rfl;intro K hK)|(refine hK _ ?_;clear hK K)|((with_reducible (first|apply oG|apply oH));iterate 3 exact rfl)|((with_reducible apply oI);(iterate 2 exact rfl);intro K hK)|(with_reducible (first|apply wI|apply wJ|apply wK)));try simp only [go_sem,simprocAttr,ag])|(with_reducible (first|apply oC|apply oJ|exact oK|apply wA|apply wB|apply wC hX hC|apply wD hX hC|apply wE hX hC af|apply wF hX hC af|apply wG|apply wH|apply And.intro))|((with_reducible refine oD ?_ ?_);kernel_rfl)|((with_reducible (first|apply oE|apply oF));(iterate 3 exact rfl);all_goals (intro h;first|(exact absurd h (by decide))|((try simp only [go_sem,simprocAttr,ag] at h);(try with_reducible intro K hK);simp only [go_sem,simprocAttr,ag])))|((first|((with_reducible apply wL);exact rfl)|((with_reducible apply wM);exact rfl));all_goals (try ((with_reducible intro h);first|(exact absurd h (by decide))|(try simp only [go_sem,simprocAttr,ag] at h))))|omega|((first|refine aa hX hC hP (rq (·.2) g hm x) rfl rfl rfl (by simp only [go_sem,simprocAttr,ag]) rfl ?_);try simp only [go_sem,simprocAttr,ag])|(intro h))
end Go.Ab
end
section
namespace Go.Ab
open Go.Proofs
attribute [local congr] ACall.congr
set_option maxRecDepth 10000
abbrev It:=Int × Int × Int
def rT (t:It):List D:= [.sc (.int .i64 t.1), .sc (.int .i64 t.2.1), .sc (.int .i64 t.2.2)]
def eT (t:It):AV:= .agg [.d (.sc (.int .i64 t.1)), .d (.sc (.int .i64 t.2.1)), .d (.sc (.int .i64 t.2.2))]
def sT (ts:List It):D:= .sl 3 (ts.map rT)
theorem getD_rT (ps:List It) (i:Nat):(ps.map rT).getD i [.sc (.int .i64 0), .sc (.int .i64 0), .sc (.int .i64 0)]=rT (ps.getD i (0,0,0)):=by
 simp only [List.getD_eq_getElem?_getD,List.getElem?_map]
 cases ps[i]? <;>rfl
theorem rT_eq (t:It):rT t= [.sc (.int .i64 t.1), .sc (.int .i64 t.2.1), .sc (.int .i64 t.2.2)]:=rfl
attribute [go_sem] getD_rT rT_eq eT sT
theorem tu {l:List Int} :∀r∈l.map rI,∀x∈r,∃v,x=D.sc v:=by
 intro r hr x hx
 obtain ⟨y,_,rfl⟩:=List.mem_map.1 hr
 simp only [rI,List.mem_singleton] at hx
 exact ⟨_,hx⟩
theorem tv {l:List It} :∀r∈l.map rT,∀x∈r,∃v,x=D.sc v:=by
 intro r hr x hx
 obtain ⟨y,_,rfl⟩:=List.mem_map.1 hr
 simp only [rT,List.mem_cons,List.not_mem_nil,or_false] at hx
 rcases hx with h|h|h<;>exact ⟨_,h⟩
theorem bS {α:Type} {l:List α} {m:Nat} {d:α} (h:m<l.length):l.getD m d∈l:=by
 rw [List.getD_eq_getElem?_getD,List.getElem?_eq_getElem h];exact List.getElem_mem h
theorem o5 (ps:List It) (hl:ps.length≤1000000):
 Spec Tryz.prog 127 (Args [.d (sT ps)]) [] (.ref 10000) [(10000, .tip 100 3 (ps.map rT))]:=by
 (refine Spec.dO (C:=T.cfg [] []) (rs:= [.t 2]) [(10000,7)] (T.ai _ _) Tryz.func127 rfl rfl Tryz.ntmps127 Tryz.results127 (by simp [AObj.isNest]) (by simp [AObj.isNest]) (by first|(simp [look];done)|(simp [asN];done)|(intro l hl;simp only [asN];repeat (rw [if_neg (fun e=>by subst e;simp [look] at hl)]))) (by first|(simp [look];done)|(simp [asN];done)|(intro l hl;simp only [asN];repeat (rw [if_neg (fun e=>by subst e;simp [look] at hl)]))) (by kernel_rfl) ?_;intro X hX hP hC aH aI vals hA;refine ⟨_,by simp,hA, ?_⟩;have af:X.P.follows .mixedOrders=true:=(by rw [hP];exact T.mixed);clear aH aI)
 repeat' (first|(show dH _ .ret _ _;(try simp only [go_sem,simprocAttr]);refine gm hX 2 7 (.tip 100 3 []) ?_ ?_ (by decide) ⟨100,3,by decide, .inr rfl⟩ ?_;(iterate 2 (focus (simp only [go_sem,simprocAttr];done)));simp only [go_sem,simprocAttr])|((first|((with_reducible (first|apply oA|apply oB));exact rfl;intro K hK)|(refine hK _ ?_;clear hK K)|((with_reducible (first|apply oG|apply oH));iterate 3 exact rfl)|((with_reducible apply oI);(iterate 2 exact rfl);intro K hK)|(with_reducible (first|apply wI|apply wJ|apply wK)));try simp only [go_sem,simprocAttr])|(with_reducible (first|apply oC|apply oJ|exact oK|apply wA|apply wB|apply wC hX hC|apply wD hX hC|apply wE hX hC af|apply wF hX hC af|apply wG|apply wH|apply And.intro))|((with_reducible refine oD ?_ ?_);kernel_rfl)|((with_reducible (first|apply oE|apply oF));(iterate 3 exact rfl);all_goals (intro h;first|(exact absurd h (by decide))|((try simp only [go_sem,simprocAttr] at h);(try with_reducible intro K hK);simp only [go_sem,simprocAttr])))|((first|((with_reducible apply wL);exact rfl)|((with_reducible apply wM);exact rfl));all_goals (try ((with_reducible intro h);first|(exact absurd h (by decide))|(try simp only [go_sem,simprocAttr] at h))))|omega|(intro h))
 exact h.symm
theorem ko {m:List (Nat × AObj)} (hR:bt m) (f:Nat) (caps:List AV) (g:It→Bool) (ps:List It) (hf:∀p∈ps,Spec Tryz.prog f (Args (eT p::caps)) m (eB (g p)) m) (hl:ps.length≤9223372036854775807):
 Spec Tryz.prog 212 (Args [.d (sT ps), .fn f [] caps]) m (eN (bN g ps)) m:=by
 (refine Spec.intro (C:=T.cfg [] []) (rs:= [.t 4]) (T.ai _ _) Tryz.func212 rfl rfl Tryz.ntmps212 Tryz.results212 (fun p hp=>⟨(bt.low hR p hp).1,bt.nest hR p hp⟩) (fun p hp=>⟨(bt.low hR p hp).2,bt.nest hR p hp⟩) (by kernel_rfl) ?_;intro X hX hP hC aH aI vals hA;refine ⟨_,by simp,hA, ?_⟩;have af:X.P.follows .mixedOrders=true:=(by rw [hP];exact T.mixed);clear aH aI)
 repeat' (first|((first|((with_reducible (first|apply oA|apply oB));exact rfl;intro K hK)|(refine hK _ ?_;clear hK K)|((with_reducible (first|apply oG|apply oH));iterate 3 exact rfl)|((with_reducible apply oI);(iterate 2 exact rfl);intro K hK)|(with_reducible (first|apply wI|apply wJ|apply wK)));try simp only [go_sem,simprocAttr])|(with_reducible (first|apply oC|apply oJ|exact oK|apply wA|apply wB|apply wC hX hC|apply wD hX hC|apply wE hX hC af|apply wF hX hC af|apply wG|apply wH|apply And.intro))|((with_reducible refine oD ?_ ?_);kernel_rfl)|((with_reducible (first|apply oE|apply oF));(iterate 3 exact rfl);all_goals (intro h;first|(exact absurd h (by decide))|((try simp only [go_sem,simprocAttr] at h);(try with_reducible intro K hK);simp only [go_sem,simprocAttr])))|((first|((with_reducible apply wL);exact rfl)|((with_reducible apply wM);exact rfl));all_goals (try ((with_reducible intro h);first|(exact absurd h (by decide))|(try simp only [go_sem,simprocAttr] at h))))|omega|(intro h))
 refine aj (fun k:Nat=>k≤ps.length∧∀j,j<k→g (ps.getD j (0,0,0))=false) (fun k=>⟨[(0, .d (sT ps)),(1, .fn f [] caps),(7,eN ps.length),(8,eN k)],m⟩) (fun k=>ps.length - k) 0 (by simp) ?_ ?_
 ·(refine ⟨bJ ?_,fun _ _ h=>h⟩;simp [go_sem,simprocAttr])
 rintro k ⟨hk,hg⟩
 rcases Nat.lt_or_ge k ps.length with hlt|hge
 ·have hb:decide ((k:Int)<(ps.length:Int))=true:=decide_eq_true (by omega)
  have hf':=hf (ps.getD k (0,0,0)) (bS hlt)
  repeat' (first|((first|((with_reducible (first|apply oA|apply oB));exact rfl;intro K hK)|(refine hK _ ?_;clear hK K)|((with_reducible (first|apply oG|apply oH));iterate 3 exact rfl)|((with_reducible apply oI);(iterate 2 exact rfl);intro K hK)|(with_reducible (first|apply wI|apply wJ|apply wK)));try simp only [go_sem,simprocAttr,hb])|(with_reducible (first|apply oC|apply oJ|exact oK|apply wA|apply wB|apply wC hX hC|apply wD hX hC|apply wE hX hC af|apply wF hX hC af|apply wG|apply wH|apply And.intro))|((with_reducible refine oD ?_ ?_);kernel_rfl)|((with_reducible (first|apply oE|apply oF));(iterate 3 exact rfl);all_goals (intro h;first|(exact absurd h (by decide))|((try simp only [go_sem,simprocAttr,hb] at h);(try with_reducible intro K hK);simp only [go_sem,simprocAttr,hb])))|((first|((with_reducible apply wL);exact rfl)|((with_reducible apply wM);exact rfl));all_goals (try ((with_reducible intro h);first|(exact absurd h (by decide))|(try simp only [go_sem,simprocAttr,hb] at h))))|omega|((first|(first|(refine aY hX hC hP hR (hf') rfl rfl rfl ?_ ?_ rfl rfl ?_;(focus (simp only [go_sem,simprocAttr,hb];done));(focus (first|(intro p hp;exact aP (bt.nd hR) hp)|(simp [go_sem,simprocAttr,hb];done))))|(refine aY hX hC hP hR (hf') rfl rfl rfl ?_ ?_ ?_ rfl ?_;(focus (simp only [go_sem,simprocAttr,hb];done));(focus (first|(intro p hp;exact aP (bt.nd hR) hp)|(simp [go_sem,simprocAttr,hb];done)));(focus (simp [go_sem,simprocAttr,hb];done)))));try simp only [go_sem,simprocAttr,hb])|(intro h))
  ·exact (dF (by omega) hg h).symm
  ·exact eu hR
  ·refine ⟨k+1,⟨by omega,fun j hj=> ?_⟩, ?_,by omega⟩
   ·by_cases hjk:j=k
    ·subst hjk;exact h
    ·exact hg j (by omega)
   ·(refine ⟨bJ ?_,fun _ _ h=>h⟩;simp [go_sem,simprocAttr,hb])
 ·have hb:decide ((k:Int)<(ps.length:Int))=false:=decide_eq_false (by omega)
  repeat' (first|((first|((with_reducible (first|apply oA|apply oB));exact rfl;intro K hK)|(refine hK _ ?_;clear hK K)|((with_reducible (first|apply oG|apply oH));iterate 3 exact rfl)|((with_reducible apply oI);(iterate 2 exact rfl);intro K hK)|(with_reducible (first|apply wI|apply wJ|apply wK)));try simp only [go_sem,simprocAttr,hb])|(with_reducible (first|apply oC|apply oJ|exact oK|apply wA|apply wB|apply wC hX hC|apply wD hX hC|apply wE hX hC af|apply wF hX hC af|apply wG|apply wH|apply And.intro))|((with_reducible refine oD ?_ ?_);kernel_rfl)|((with_reducible (first|apply oE|apply oF));(iterate 3 exact rfl);all_goals (intro h;first|(exact absurd h (by decide))|((try simp only [go_sem,simprocAttr,hb] at h);(try with_reducible intro K hK);simp only [go_sem,simprocAttr,hb])))|((first|((with_reducible apply wL);exact rfl)|((with_reducible apply wM);exact rfl));all_goals (try ((with_reducible intro h);first|(exact absurd h (by decide))|(try simp only [go_sem,simprocAttr,hb] at h))))|omega|((first|(first|(refine aY hX hC hP hR (hf') rfl rfl rfl ?_ ?_ rfl rfl ?_;(focus (simp only [go_sem,simprocAttr,hb];done));(focus (first|(intro p hp;exact aP (bt.nd hR) hp)|(simp [go_sem,simprocAttr,hb];done))))|(refine aY hX hC hP hR (hf') rfl rfl rfl ?_ ?_ ?_ rfl ?_;(focus (simp only [go_sem,simprocAttr,hb];done));(focus (first|(intro p hp;exact aP (bt.nd hR) hp)|(simp [go_sem,simprocAttr,hb];done)));(focus (simp [go_sem,simprocAttr,hb];done)))));try simp only [go_sem,simprocAttr,hb])|(intro h))
  ·exact (cC (0,0,0) fun j hj=>hg j (by omega)).symm
  ·exact eu hR
theorem mD {m:List (Nat × AObj)} (hR:bt m) (f:Nat) (caps:List AV) (g:It→Bool) (ps:List It) (hf:∀p∈ps,Spec Tryz.prog f (Args (eT p::caps)) m (eB (g p)) m) (hl:ps.length≤9223372036854775807):
 Spec Tryz.prog 197 (Args [.d (sT ps), .fn f [] caps]) m (eB (ps.any g)) m:=by
 (refine Spec.intro (C:=T.cfg [] []) (rs:= [.t 4]) (T.ai _ _) Tryz.func197 rfl rfl Tryz.ntmps197 Tryz.results197 (fun p hp=>⟨(bt.low hR p hp).1,bt.nest hR p hp⟩) (fun p hp=>⟨(bt.low hR p hp).2,bt.nest hR p hp⟩) (by kernel_rfl) ?_;intro X hX hP hC aH aI vals hA;refine ⟨_,by simp,hA, ?_⟩;have af:X.P.follows .mixedOrders=true:=(by rw [hP];exact T.mixed);clear aH aI)
 repeat' (first|((first|((with_reducible (first|apply oA|apply oB));exact rfl;intro K hK)|(refine hK _ ?_;clear hK K)|((with_reducible (first|apply oG|apply oH));iterate 3 exact rfl)|((with_reducible apply oI);(iterate 2 exact rfl);intro K hK)|(with_reducible (first|apply wI|apply wJ|apply wK)));try simp only [go_sem,simprocAttr])|(with_reducible (first|apply oC|apply oJ|exact oK|apply wA|apply wB|apply wC hX hC|apply wD hX hC|apply wE hX hC af|apply wF hX hC af|apply wG|apply wH|apply And.intro))|((with_reducible refine oD ?_ ?_);kernel_rfl)|((with_reducible (first|apply oE|apply oF));(iterate 3 exact rfl);all_goals (intro h;first|(exact absurd h (by decide))|((try simp only [go_sem,simprocAttr] at h);(try with_reducible intro K hK);simp only [go_sem,simprocAttr])))|((first|((with_reducible apply wL);exact rfl)|((with_reducible apply wM);exact rfl));all_goals (try ((with_reducible intro h);first|(exact absurd h (by decide))|(try simp only [go_sem,simprocAttr] at h))))|omega|((first|(first|(refine aY hX hC hP hR (ko hR f caps g ps hf hl) rfl rfl rfl ?_ ?_ rfl rfl ?_;(focus (simp only [go_sem,simprocAttr];done));(focus (first|(intro p hp;exact aP (bt.nd hR) hp)|(simp [go_sem,simprocAttr];done))))|(refine aY hX hC hP hR (ko hR f caps g ps hf hl) rfl rfl rfl ?_ ?_ ?_ rfl ?_;(focus (simp only [go_sem,simprocAttr];done));(focus (first|(intro p hp;exact aP (bt.nd hR) hp)|(simp [go_sem,simprocAttr];done)));(focus (simp [go_sem,simprocAttr];done)))));try simp only [go_sem,simprocAttr])|(intro h))
 ·exact ic g ps
 ·exact eu hR
theorem iE (n:Int) (h0:0<n) (hl:n≤1000000):Spec Tryz.prog 199 (Args [.nil 100,eN n]) [] (.ref 10000) [(10000, .own 100 3 [])]:=by
 (refine Spec.dO (C:=T.cfg [] []) (rs:= [.t 4]) [(10000,25)] (T.ai _ _) Tryz.func199 rfl rfl Tryz.ntmps199 Tryz.results199 (by simp [AObj.isNest]) (by simp [AObj.isNest]) (by first|(simp [look];done)|(simp [asN];done)|(intro l hl;simp only [asN];repeat (rw [if_neg (fun e=>by subst e;simp [look] at hl)]))) (by first|(simp [look];done)|(simp [asN];done)|(intro l hl;simp only [asN];repeat (rw [if_neg (fun e=>by subst e;simp [look] at hl)]))) (by kernel_rfl) ?_;intro X hX hP hC aH aI vals hA;refine ⟨_,by simp,hA, ?_⟩;have af:X.P.follows .mixedOrders=true:=(by rw [hP];exact T.mixed);clear aH aI)
 repeat' (first|((first|((with_reducible (first|apply oA|apply oB));exact rfl;intro K hK)|(refine hK _ ?_;clear hK K)|((with_reducible (first|apply oG|apply oH));iterate 3 exact rfl)|((with_reducible apply oI);(iterate 2 exact rfl);intro K hK)|(with_reducible (first|apply wI|apply wJ|apply wK)));try simp only [go_sem,simprocAttr])|(with_reducible (first|apply oC|apply oJ|exact oK|apply wA|apply wB|apply wC hX hC|apply wD hX hC|apply wE hX hC af|apply wF hX hC af|apply wG|apply wH|apply And.intro))|((with_reducible refine oD ?_ ?_);kernel_rfl)|((with_reducible (first|apply oE|apply oF));(iterate 3 exact rfl);all_goals (intro h;first|(exact absurd h (by decide))|((try simp only [go_sem,simprocAttr] at h);(try with_reducible intro K hK);simp only [go_sem,simprocAttr])))|((first|((with_reducible apply wL);exact rfl)|((with_reducible apply wM);exact rfl));all_goals (try ((with_reducible intro h);first|(exact absurd h (by decide))|(try simp only [go_sem,simprocAttr] at h))))|omega|(intro h))
def vT (ls:List (List It)):List (List D):=ls.map fun l=> [sT l]
theorem vT_length {ls:List (List It)} :(vT ls).length=ls.length:=by simp [vT]
theorem pW {ls:List (List It)} {k:Nat} (h:k<ls.length) (d:List D):(vT ls).getD k d= [sT (ls.getD k [])]:=by
 simp [vT,List.getD_eq_getElem?_getD,List.getElem?_eq_getElem h]
attribute [go_sem] vT_length
theorem ru {α:Type} {ls:List (List α)} {k:Nat} (h:k<ls.length):(ls.take (k+1)).flatten=(ls.take k).flatten++ls.getD k []:=by
 rw [List.take_add_one,List.flatten_append,List.getElem?_eq_getElem h,List.getD_eq_getElem?_getD,List.getElem?_eq_getElem h]
 simp
theorem nE {α:Type} {ls:List (List α)} {k:Nat} :(ls.take k).flatten.length≤ls.flatten.length:=by
 have:=congrArg (fun x=>x.flatten.length) (List.take_append_drop k ls)
 simp only [List.flatten_append,List.length_append] at this
 omega
theorem uX (ls:List (List It)) (hn:ls.length≤1000) (h0:0<ls.flatten.length) (hl:ls.flatten.length≤1000000):Spec Tryz.prog 174 (Args [.d (.sl 1 (vT ls))]) [] (.d (sT ls.flatten)) []:=by
 (refine Spec.intro (C:=T.cfg [] []) (rs:= [.t 2]) (T.ai _ _) Tryz.func174 rfl rfl Tryz.ntmps174 Tryz.results174 (by simp [AObj.isNest]) (by simp [AObj.isNest]) (by kernel_rfl) ?_;intro X hX hP hC aH aI vals hA;refine ⟨_,by simp,hA, ?_⟩;have af:X.P.follows .mixedOrders=true:=(by rw [hP];exact T.mixed);clear aH aI)
 repeat' (first|((first|((with_reducible (first|apply oA|apply oB));exact rfl;intro K hK)|(refine hK _ ?_;clear hK K)|((with_reducible (first|apply oG|apply oH));iterate 3 exact rfl)|((with_reducible apply oI);(iterate 2 exact rfl);intro K hK)|(with_reducible (first|apply wI|apply wJ|apply wK)));try simp only [go_sem,simprocAttr])|(with_reducible (first|apply oC|apply oJ|exact oK|apply wA|apply wB|apply wC hX hC|apply wD hX hC|apply wE hX hC af|apply wF hX hC af|apply wG|apply wH|apply And.intro))|((with_reducible refine oD ?_ ?_);kernel_rfl)|((with_reducible (first|apply oE|apply oF));(iterate 3 exact rfl);all_goals (intro h;first|(exact absurd h (by decide))|((try simp only [go_sem,simprocAttr] at h);(try with_reducible intro K hK);simp only [go_sem,simprocAttr])))|((first|((with_reducible apply wL);exact rfl)|((with_reducible apply wM);exact rfl));all_goals (try ((with_reducible intro h);first|(exact absurd h (by decide))|(try simp only [go_sem,simprocAttr] at h))))|omega|((first|(refine aA hX hC hP [(10000,33)] (iE (ls.flatten.length:Int) (by omega) (by omega)) rfl rfl rfl ?_ ?_ ?_ ?_ ?_ ?_ ?_ ?_ ?_ ?_ ?_ ?_ ?_ ?_;(focus (simp only [go_sem,simprocAttr];done));(iterate 12 (focus (simp [go_sem,simprocAttr];done)));simp only [go_sem,simprocAttr,List.map_cons,List.map_nil]));try simp only [go_sem,simprocAttr])|(intro h))
 refine aj (fun k:Nat=>k≤ls.length) (fun k=>⟨[(0, .d (.sl 1 (vT ls))),(9, .d (.sl 1 (vT ls))),(10,eN ls.length),(11,eN k),(3,eN ((ls.take k).flatten.length))], []⟩) (fun k=>ls.length - k) 0 (by omega) ?_ ?_
 ·(refine Le.of ?_ ?_<;>simp [go_sem,simprocAttr])
 ·rintro k hk
  rcases Nat.lt_or_ge k ls.length with hlt|hge
  ·have hb:decide ((k:Int)<(ls.length:Int))=true:=decide_eq_true (by omega)
   have hv:=pW hlt
   have hf:=ru hlt
   have Iu:=nE (ls:=ls) (k:=k)
   have FF:=nE (ls:=ls) (k:=k+1)
   rw [hf,List.length_append] at FF
   have hneg:decide (((ls.take k).flatten.length:Int)+((ls.getD k []).length:Int)<0)=false:=decide_eq_false (by omega)
   repeat' (first|((first|((with_reducible (first|apply oA|apply oB));exact rfl;intro K hK)|(refine hK _ ?_;clear hK K)|((with_reducible (first|apply oG|apply oH));iterate 3 exact rfl)|((with_reducible apply oI);(iterate 2 exact rfl);intro K hK)|(with_reducible (first|apply wI|apply wJ|apply wK)));try simp only [go_sem,simprocAttr,hb,hv,hneg])|(with_reducible (first|apply oC|apply oJ|exact oK|apply wA|apply wB|apply wC hX hC|apply wD hX hC|apply wE hX hC af|apply wF hX hC af|apply wG|apply wH|apply And.intro))|((with_reducible refine oD ?_ ?_);kernel_rfl)|((with_reducible (first|apply oE|apply oF));(iterate 3 exact rfl);all_goals (intro h;first|(exact absurd h (by decide))|((try simp only [go_sem,simprocAttr,hb,hv,hneg] at h);(try with_reducible intro K hK);simp only [go_sem,simprocAttr,hb,hv,hneg])))|((first|((with_reducible apply wL);exact rfl)|((with_reducible apply wM);exact rfl));all_goals (try ((with_reducible intro h);first|(exact absurd h (by decide))|(try simp only [go_sem,simprocAttr,hb,hv,hneg] at h))))|omega|((first|(refine aA hX hC hP [(10000,33)] (iE (ls.flatten.length:Int) (by omega) (by omega)) rfl rfl rfl ?_ ?_ ?_ ?_ ?_ ?_ ?_ ?_ ?_ ?_ ?_ ?_ ?_ ?_;(focus (simp only [go_sem,simprocAttr,hb,hv,hneg];done));(iterate 12 (focus (simp [go_sem,simprocAttr,hb,hv,hneg];done)));simp only [go_sem,simprocAttr,hb,hv,hneg,List.map_cons,List.map_nil]));try simp only [go_sem,simprocAttr,hb,hv,hneg])|(intro h))
   refine ⟨k+1,by omega, ?_,by omega⟩
   simp only [hf]
   refine Le.of ?_ ?_<;>simp [go_sem,simprocAttr,hb,hv,hneg]
  ·have hb:decide ((k:Int)<(ls.length:Int))=false:=decide_eq_false (by omega)
   have ht:ls.take k=ls:=List.take_of_length_le (by omega)
   repeat' (first|((first|((with_reducible (first|apply oA|apply oB));exact rfl;intro K hK)|(refine hK _ ?_;clear hK K)|((with_reducible (first|apply oG|apply oH));iterate 3 exact rfl)|((with_reducible apply oI);(iterate 2 exact rfl);intro K hK)|(with_reducible (first|apply wI|apply wJ|apply wK)));try simp only [go_sem,simprocAttr,hb,ht])|(with_reducible (first|apply oC|apply oJ|exact oK|apply wA|apply wB|apply wC hX hC|apply wD hX hC|apply wE hX hC af|apply wF hX hC af|apply wG|apply wH|apply And.intro))|((with_reducible refine oD ?_ ?_);kernel_rfl)|((with_reducible (first|apply oE|apply oF));(iterate 3 exact rfl);all_goals (intro h;first|(exact absurd h (by decide))|((try simp only [go_sem,simprocAttr,hb,ht] at h);(try with_reducible intro K hK);simp only [go_sem,simprocAttr,hb,ht])))|((first|((with_reducible apply wL);exact rfl)|((with_reducible apply wM);exact rfl));all_goals (try ((with_reducible intro h);first|(exact absurd h (by decide))|(try simp only [go_sem,simprocAttr,hb,ht] at h))))|omega|((first|(refine aA hX hC hP [(10000,33)] (iE (ls.flatten.length:Int) (by omega) (by omega)) rfl rfl rfl ?_ ?_ ?_ ?_ ?_ ?_ ?_ ?_ ?_ ?_ ?_ ?_ ?_ ?_;(focus (simp only [go_sem,simprocAttr,hb,ht];done));(iterate 12 (focus (simp [go_sem,simprocAttr,hb,ht];done)));simp only [go_sem,simprocAttr,hb,ht,List.map_cons,List.map_nil]));try simp only [go_sem,simprocAttr,hb,ht])|(intro h))
   refine aj (fun k:Nat=>k≤ls.length) (fun k=>⟨[(25, .d (.sl 1 (vT ls))),(26,eN ls.length),(27,eN k),(6, .ref 33)], [(33, .own 100 3 ((ls.take k).flatten.map rT))]⟩) (fun k=>ls.length - k) 0 (by omega) ?_ ?_
   ·(refine Le.of ?_ ?_<;>simp [go_sem,simprocAttr,hb,ht])
   ·clear hb ht hk hge
    rintro k hk
    rcases Nat.lt_or_ge k ls.length with hlt|hge
    ·have hb:decide ((k:Int)<(ls.length:Int))=true:=decide_eq_true (by omega)
     have hv:=pW hlt
     have hf:=ru hlt
     have Iu:=nE (ls:=ls) (k:=k)
     have FF:=nE (ls:=ls) (k:=k+1)
     rw [hf,List.length_append] at FF
     repeat' (first|((first|((with_reducible (first|apply oA|apply oB));exact rfl;intro K hK)|(refine hK _ ?_;clear hK K)|((with_reducible (first|apply oG|apply oH));iterate 3 exact rfl)|((with_reducible apply oI);(iterate 2 exact rfl);intro K hK)|(with_reducible (first|apply wI|apply wJ|apply wK)));try simp only [go_sem,simprocAttr,hb,hv])|(with_reducible (first|apply oC|apply oJ|exact oK|apply wA|apply wB|apply wC hX hC|apply wD hX hC|apply wE hX hC af|apply wF hX hC af|apply wG|apply wH|apply And.intro))|((with_reducible refine oD ?_ ?_);kernel_rfl)|((with_reducible (first|apply oE|apply oF));(iterate 3 exact rfl);all_goals (intro h;first|(exact absurd h (by decide))|((try simp only [go_sem,simprocAttr,hb,hv] at h);(try with_reducible intro K hK);simp only [go_sem,simprocAttr,hb,hv])))|((first|((with_reducible apply wL);exact rfl)|((with_reducible apply wM);exact rfl));all_goals (try ((with_reducible intro h);first|(exact absurd h (by decide))|(try simp only [go_sem,simprocAttr,hb,hv] at h))))|omega|((first|(refine aA hX hC hP [(10000,33)] (iE (ls.flatten.length:Int) (by omega) (by omega)) rfl rfl rfl ?_ ?_ ?_ ?_ ?_ ?_ ?_ ?_ ?_ ?_ ?_ ?_ ?_ ?_;(focus (simp only [go_sem,simprocAttr,hb,hv];done));(iterate 12 (focus (simp [go_sem,simprocAttr,hb,hv];done)));simp only [go_sem,simprocAttr,hb,hv,List.map_cons,List.map_nil]));try simp only [go_sem,simprocAttr,hb,hv])|(intro h))
     refine ⟨k+1,by omega, ?_,by omega⟩
     simp only [hf]
     refine Le.of ?_ ?_<;>simp [go_sem,simprocAttr,hb,hv]
    ·have hb:decide ((k:Int)<(ls.length:Int))=false:=decide_eq_false (by omega)
     have ht:ls.take k=ls:=List.take_of_length_le (by omega)
     repeat' (first|((first|((with_reducible (first|apply oA|apply oB));exact rfl;intro K hK)|(refine hK _ ?_;clear hK K)|((with_reducible (first|apply oG|apply oH));iterate 3 exact rfl)|((with_reducible apply oI);(iterate 2 exact rfl);intro K hK)|(with_reducible (first|apply wI|apply wJ|apply wK)));try simp only [go_sem,simprocAttr,hb,ht])|(with_reducible (first|apply oC|apply oJ|exact oK|apply wA|apply wB|apply wC hX hC|apply wD hX hC|apply wE hX hC af|apply wF hX hC af|apply wG|apply wH|apply And.intro))|((with_reducible refine oD ?_ ?_);kernel_rfl)|((with_reducible (first|apply oE|apply oF));(iterate 3 exact rfl);all_goals (intro h;first|(exact absurd h (by decide))|((try simp only [go_sem,simprocAttr,hb,ht] at h);(try with_reducible intro K hK);simp only [go_sem,simprocAttr,hb,ht])))|((first|((with_reducible apply wL);exact rfl)|((with_reducible apply wM);exact rfl));all_goals (try ((with_reducible intro h);first|(exact absurd h (by decide))|(try simp only [go_sem,simprocAttr,hb,ht] at h))))|omega|((first|(refine aA hX hC hP [(10000,33)] (iE (ls.flatten.length:Int) (by omega) (by omega)) rfl rfl rfl ?_ ?_ ?_ ?_ ?_ ?_ ?_ ?_ ?_ ?_ ?_ ?_ ?_ ?_;(focus (simp only [go_sem,simprocAttr,hb,ht];done));(iterate 12 (focus (simp [go_sem,simprocAttr,hb,ht];done)));simp only [go_sem,simprocAttr,hb,ht,List.map_cons,List.map_nil]));try simp only [go_sem,simprocAttr,hb,ht])|(intro h))
end Go.Ab
end
section
namespace Go.Ab
open Go.Proofs
attribute [local congr] ACall.congr
set_option maxRecDepth 10000
set_option maxHeartbeats 1000000
structure Fr where
 row:List It
 pl:List Int
def dB (g:Gr) (f:Fr):D:= .pt [sT f.row,vw g,sI f.pl]
def cF (row:List It) (x:Int):Nat→Int × Int × Int
 |0=>(-1,0,0)
 |k+1=>if (row.getD k (0,0,0)).2.2=x then (if (cF row x k).1= -1 then (k:Int) else (cF row x k).1,(k:Int)+1,(cF row x k).2.2+1) else cF row x k
def aV (row:List It) (x:Int):Int × Int × Int:=cF row x row.length
theorem iF {row:List It} {x:Int} {k:Nat} :cF row x (k+1)=if (row.getD k (0,0,0)).2.2=x then (if (cF row x k).1= -1 then (k:Int) else (cF row x k).1,(k:Int)+1,(cF row x k).2.2+1) else cF row x k:=rfl
theorem cP {row:List It} {x:Int} :∀k:Nat,(cF row x k=(-1,0,0)∧∀j,j<k→(row.getD j (0,0,0)).2.2≠x)∨
 ∃a b c:Nat,cF row x k=((a:Int),(b:Int),(c:Int))∧a<b∧b≤k∧0<c∧c≤k∧(row.getD a (0,0,0)).2.2=x∧(row.getD (b - 1) (0,0,0)).2.2=x∧(∀j,j<a→(row.getD j (0,0,0)).2.2≠x)∧(∀j,b≤j→j<k→(row.getD j (0,0,0)).2.2≠x)
 |0=> .inl ⟨rfl,fun j hj=>by omega⟩
 |k+1=>by
  rw [iF]
  by_cases hx:(row.getD k (0,0,0)).2.2=x
  ·rw [if_pos hx]
   right
   rcases cP (row:=row) (x:=x) k with ⟨h1,h2⟩|⟨a,b,c,h1,h2,h3,h4,h5,h6,h7,h8,h9⟩
   ·refine ⟨k,k+1,1,by rw [h1];rfl,by omega,by omega,by omega,by omega,hx,hx,h2,fun j h1 h2=>by omega⟩
   ·refine ⟨a,k+1,c+1,by rw [h1];simp only [Prod.mk.injEq];exact ⟨by rw [if_neg (by omega)],by omega,by omega⟩,by omega,by omega,by omega,by omega,h6,hx,h8,fun j h1 h2=>by omega⟩
  ·rw [if_neg hx]
   rcases cP (row:=row) (x:=x) k with ⟨h1,h2⟩|⟨a,b,c,h1,h2,h3,h4,h5,h6,h7,h8,h9⟩
   ·refine .inl ⟨h1,fun j hj=> ?_⟩
    by_cases hjk:j=k
    ·subst hjk;exact hx
    ·exact h2 j (by omega)
   ·refine .inr ⟨a,b,c,h1,h2,by omega,h4,by omega,h6,h7,h8,fun j LY M6=> ?_⟩
    by_cases hjk:j=k
    ·subst hjk;exact hx
    ·exact h9 j LY (by omega)
theorem dX (ds:List D) (row:List It) (x:Int) (hl:row.length≤1000000):Spec Tryz.prog 124 (Args [.d (.pt (sT row::ds)),eN x]) [] (.tup [eN (aV row x).1,eN (aV row x).2.1,eN (aV row x).2.2]) []:=by
 (refine Spec.intro (C:=T.cfg [] []) (rs:= [.t 4, .t 5, .t 6]) (T.ai _ _) Tryz.func124 rfl rfl Tryz.ntmps124 Tryz.results124 (by simp [AObj.isNest]) (by simp [AObj.isNest]) (by kernel_rfl) ?_;intro X hX hP hC aH aI vals hA;refine ⟨_,by simp,hA, ?_⟩;have af:X.P.follows .mixedOrders=true:=(by rw [hP];exact T.mixed);clear aH aI)
 repeat' (first|((first|((with_reducible (first|apply oA|apply oB));exact rfl;intro K hK)|(refine hK _ ?_;clear hK K)|((with_reducible (first|apply oG|apply oH));iterate 3 exact rfl)|((with_reducible apply oI);(iterate 2 exact rfl);intro K hK)|(with_reducible (first|apply wI|apply wJ|apply wK)));try simp only [go_sem,simprocAttr,aV])|(with_reducible (first|apply oC|apply oJ|exact oK|apply wA|apply wB|apply wC hX hC|apply wD hX hC|apply wE hX hC af|apply wF hX hC af|apply wG|apply wH|apply And.intro))|((with_reducible refine oD ?_ ?_);kernel_rfl)|((with_reducible (first|apply oE|apply oF));(iterate 3 exact rfl);all_goals (intro h;first|(exact absurd h (by decide))|((try simp only [go_sem,simprocAttr,aV] at h);(try with_reducible intro K hK);simp only [go_sem,simprocAttr,aV])))|((first|((with_reducible apply wL);exact rfl)|((with_reducible apply wM);exact rfl));all_goals (try ((with_reducible intro h);first|(exact absurd h (by decide))|(try simp only [go_sem,simprocAttr,aV] at h))))|omega|(intro h))
 refine aj (fun k:Nat=>k≤row.length) (fun k=>⟨[(1,eN x),(12, .d (sT row)),(13,eN row.length),(14,eN k),(4,eN (cF row x k).1),(5,eN (cF row x k).2.1),(6,eN (cF row x k).2.2)], []⟩) (fun k=>row.length - k) 0 (by simp) ?_ ?_
 ·refine Le.of ?_ ?_<;>simp [go_sem,simprocAttr,aV,cF]
 rintro k hk
 rcases Nat.lt_or_ge k row.length with hlt|hge
 ·have hb:decide ((k:Int)<(row.length:Int))=true:=decide_eq_true (by omega)
  have hok:=cP (row:=row) (x:=x) k
  have hc: -1≤(cF row x k).2.2∧(cF row x k).2.2≤k:=by
   rcases hok with ⟨h1,_⟩|⟨a,b,c,h1,_,_,_,_,_⟩<;>rw [h1]<;>simp only<;>omega
  have c7:=iF (row:=row) (x:=x) (k:=k)
  repeat' (first|((first|((with_reducible (first|apply oA|apply oB));exact rfl;intro K hK)|(refine hK _ ?_;clear hK K)|((with_reducible (first|apply oG|apply oH));iterate 3 exact rfl)|((with_reducible apply oI);(iterate 2 exact rfl);intro K hK)|(with_reducible (first|apply wI|apply wJ|apply wK)));try simp only [go_sem,simprocAttr,hb])|(with_reducible (first|apply oC|apply oJ|exact oK|apply wA|apply wB|apply wC hX hC|apply wD hX hC|apply wE hX hC af|apply wF hX hC af|apply wG|apply wH|apply And.intro))|((with_reducible refine oD ?_ ?_);kernel_rfl)|((with_reducible (first|apply oE|apply oF));(iterate 3 exact rfl);all_goals (intro h;first|(exact absurd h (by decide))|((try simp only [go_sem,simprocAttr,hb] at h);(try with_reducible intro K hK);simp only [go_sem,simprocAttr,hb])))|((first|((with_reducible apply wL);exact rfl)|((with_reducible apply wM);exact rfl));all_goals (try ((with_reducible intro h);first|(exact absurd h (by decide))|(try simp only [go_sem,simprocAttr,hb] at h))))|omega|(intro h))
  all_goals (first|rw [if_neg (by assumption)] at c7|(rw [if_pos (by assumption)] at c7;first|rw [if_pos (by assumption)] at c7|rw [if_neg (by assumption)] at c7))
  all_goals (refine ⟨k+1,by omega, ?_,by omega⟩;refine Le.of ?_ ?_<;>simp [go_sem,simprocAttr,hb,c7])
 ·have hb:decide ((k:Int)<(row.length:Int))=false:=decide_eq_false (by omega)
  obtain rfl:k=row.length:=by omega
  repeat' (first|((first|((with_reducible (first|apply oA|apply oB));exact rfl;intro K hK)|(refine hK _ ?_;clear hK K)|((with_reducible (first|apply oG|apply oH));iterate 3 exact rfl)|((with_reducible apply oI);(iterate 2 exact rfl);intro K hK)|(with_reducible (first|apply wI|apply wJ|apply wK)));try simp only [go_sem,simprocAttr,hb,aV])|(with_reducible (first|apply oC|apply oJ|exact oK|apply wA|apply wB|apply wC hX hC|apply wD hX hC|apply wE hX hC af|apply wF hX hC af|apply wG|apply wH|apply And.intro))|((with_reducible refine oD ?_ ?_);kernel_rfl)|((with_reducible (first|apply oE|apply oF));(iterate 3 exact rfl);all_goals (intro h;first|(exact absurd h (by decide))|((try simp only [go_sem,simprocAttr,hb,aV] at h);(try with_reducible intro K hK);simp only [go_sem,simprocAttr,hb,aV])))|((first|((with_reducible apply wL);exact rfl)|((with_reducible apply wM);exact rfl));all_goals (try ((with_reducible intro h);first|(exact absurd h (by decide))|(try simp only [go_sem,simprocAttr,hb,aV] at h))))|omega|(intro h))
def j4 (x:Int) (t:It):Bool:=decide (t.2.2≠x)&&decide (t.2.2≠ -1)
def o6 (row:List It) (x:Int) (a b:Nat):Bool:= !((row.take b).drop a).any (j4 x)
theorem Az (x:Int):bt [(10000, .rob [eN x])]:=⟨by simp [AObj.ro],by simp [nodupM,look],by simp,by simp [AObj.ids,AV.ids,AV.idss,eN]⟩
theorem yf (x:Int) (t:It):Spec Tryz.prog 198 (Args [eT t, .ptr 10000 0]) [(10000, .rob [eN x])] (eB (j4 x t)) [(10000, .rob [eN x])]:=by
 (refine Spec.intro (C:=T.cfg [] []) (rs:= [.t 3]) (T.ai _ _) Tryz.func198 rfl rfl Tryz.ntmps198 Tryz.results198 (fun p hp=>⟨(bt.low (Az x) p hp).1,bt.nest (Az x) p hp⟩) (fun p hp=>⟨(bt.low (Az x) p hp).2,bt.nest (Az x) p hp⟩) (by kernel_rfl) ?_;intro X hX hP hC aH aI vals hA;refine ⟨_,by simp,hA, ?_⟩;have af:X.P.follows .mixedOrders=true:=(by rw [hP];exact T.mixed);clear aH aI)
 repeat' (first|((first|((with_reducible (first|apply oA|apply oB));exact rfl;intro K hK)|(refine hK _ ?_;clear hK K)|((with_reducible (first|apply oG|apply oH));iterate 3 exact rfl)|((with_reducible apply oI);(iterate 2 exact rfl);intro K hK)|(with_reducible (first|apply wI|apply wJ|apply wK)));try simp only [go_sem,simprocAttr])|(with_reducible (first|apply oC|apply oJ|exact oK|apply wA|apply wB|apply wC hX hC|apply wD hX hC|apply wE hX hC af|apply wF hX hC af|apply wG|apply wH|apply And.intro))|((with_reducible refine oD ?_ ?_);kernel_rfl)|((with_reducible (first|apply oE|apply oF));(iterate 3 exact rfl);all_goals (intro h;first|(exact absurd h (by decide))|((try simp only [go_sem,simprocAttr] at h);(try with_reducible intro K hK);simp only [go_sem,simprocAttr])))|((first|((with_reducible apply wL);exact rfl)|((with_reducible apply wM);exact rfl));all_goals (try ((with_reducible intro h);first|(exact absurd h (by decide))|(try simp only [go_sem,simprocAttr] at h))))|omega|(intro h))
 all_goals (simp only [j4];first|exact eu (Az x)|simp [*])
theorem fW (ds:List D) (row:List It) (x:Int) (a b:Nat) (hab:a≤b) (hb:b≤row.length) (hl:row.length≤1000000):Spec Tryz.prog 173 (Args [.d (.pt (sT row::ds)),eN x,eN a,eN b]) [] (eB (o6 row x a b)) []:=by
 have De:sT ((row.take b).drop a)= .sl 3 (((row.map rT).take b).drop a):=by simp [sT,List.map_take,List.map_drop]
 have wP:((row.take b).drop a).length≤9223372036854775807:=by simp;omega
 (refine Spec.intro (C:=T.cfg [] []) (rs:= [.t 8]) (T.ai _ _) Tryz.func173 rfl rfl Tryz.ntmps173 Tryz.results173 (by simp [AObj.isNest]) (by simp [AObj.isNest]) (by kernel_rfl) ?_;intro X hX hP hC aH aI vals hA;refine ⟨_,by simp,hA, ?_⟩;have af:X.P.follows .mixedOrders=true:=(by rw [hP];exact T.mixed);clear aH aI)
 repeat' (first|((first|((with_reducible (first|apply oA|apply oB));exact rfl;intro K hK)|(refine hK _ ?_;clear hK K)|((with_reducible (first|apply oG|apply oH));iterate 3 exact rfl)|((with_reducible apply oI);(iterate 2 exact rfl);intro K hK)|(with_reducible (first|apply wI|apply wJ|apply wK)));try simp only [go_sem,simprocAttr,List.map_take,List.map_drop])|(with_reducible (first|apply oC|apply oJ|exact oK|apply wA|apply wB|apply wC hX hC|apply wD hX hC|apply wE hX hC af|apply wF hX hC af|apply wG|apply wH|apply And.intro))|((with_reducible refine oD ?_ ?_);kernel_rfl)|((with_reducible (first|apply oE|apply oF));(iterate 3 exact rfl);all_goals (intro h;first|(exact absurd h (by decide))|((try simp only [go_sem,simprocAttr,List.map_take,List.map_drop] at h);(try with_reducible intro K hK);simp only [go_sem,simprocAttr,List.map_take,List.map_drop])))|((first|((with_reducible apply wL);exact rfl)|((with_reducible apply wM);exact rfl));all_goals (try ((with_reducible intro h);first|(exact absurd h (by decide))|(try simp only [go_sem,simprocAttr,List.map_take,List.map_drop] at h))))|omega|((first|(refine aE hX hC hP [(10000,5)] (mD (Az x) _ [.ptr 10000 0] (j4 x) ((row.take b).drop a) (fun t _=>yf x t) wP) rfl rfl rfl ?_ ?_ ?_ ?_ ?_ ?_ rfl rfl ?_ ?_;(focus (simp only [go_sem,simprocAttr,List.map_take,List.map_drop];done));(iterate 6 (focus (simp [go_sem,simprocAttr,List.map_take,List.map_drop];done)));simp only [go_sem,simprocAttr,List.map_take,List.map_drop,List.map_cons,List.map_nil]));try simp only [go_sem,simprocAttr,List.map_take,List.map_drop])|(intro h))
 rfl
end Go.Ab
end
section
namespace Go.Ab
open Go.Proofs
attribute [local congr] ACall.congr
set_option maxRecDepth 10000
set_option maxHeartbeats 2000000
def dU (g:Gr) (f:Fr) (x:Int):Bool:=
 if x<0∨g.n≤x∨x∈f.pl then false else
 decide ((aV f.row x).2.2=((bp (·.2) g x).length:Int))&&(decide ((bp (·.2) g x).length=0)||o6 f.row x (aV f.row x).1.toNat (aV f.row x).2.1.toNat)
theorem yg {f:Edge→Int} {g:Gr} {x:Int} :(bp f g x).length≤g.es.length:=by
 unfold bp
 split
 ·exact jx
 ·simp
theorem fX (g:Gr) (hm:aL g=true) (f:Fr) (x:Int) (hr:f.row.length≤1000000) (fA:f.pl.length≤1000000):Spec Tryz.prog 123 (Args [.d (dB g f),eN x]) [] (eB (dU g f x)) []:=by
 have hp:f.pl.length≤9223372036854775807:=by omega
 have hn:=aR hm
 unfold dB
 by_cases hx:x<0∨g.n≤x∨x∈f.pl
 ·have hR:dU g f x=false:=if_pos hx
  (refine Spec.intro (C:=T.cfg [] []) (rs:= [.t 4]) (T.ai _ _) Tryz.func123 rfl rfl Tryz.ntmps123 Tryz.results123 (by simp [AObj.isNest]) (by simp [AObj.isNest]) (by kernel_rfl) ?_;intro X hX hP hC aH aI vals hA;refine ⟨_,by simp,hA, ?_⟩;have af:X.P.follows .mixedOrders=true:=(by rw [hP];exact T.mixed);clear aH aI)
  by_cases h1:x<0
  ·have ak:decide (x<0)=true:=decide_eq_true h1
   repeat' (first|((first|((with_reducible (first|apply oA|apply oB));exact rfl;intro K hK)|(refine hK _ ?_;clear hK K)|((with_reducible (first|apply oG|apply oH));iterate 3 exact rfl)|((with_reducible apply oI);(iterate 2 exact rfl);intro K hK)|(with_reducible (first|apply wI|apply wJ|apply wK)));try simp only [go_sem,simprocAttr,ag,hR,ak])|(with_reducible (first|apply oC|apply oJ|exact oK|apply wA|apply wB|apply wC hX hC|apply wD hX hC|apply wE hX hC af|apply wF hX hC af|apply wG|apply wH|apply And.intro))|((with_reducible refine oD ?_ ?_);kernel_rfl)|((with_reducible (first|apply oE|apply oF));(iterate 3 exact rfl);all_goals (intro h;first|(exact absurd h (by decide))|((try simp only [go_sem,simprocAttr,ag,hR,ak] at h);(try with_reducible intro K hK);simp only [go_sem,simprocAttr,ag,hR,ak])))|((first|((with_reducible apply wL);exact rfl)|((with_reducible apply wM);exact rfl));all_goals (try ((with_reducible intro h);first|(exact absurd h (by decide))|(try simp only [go_sem,simprocAttr,ag,hR,ak] at h))))|omega|((first|refine aa hX hC hP (jy g hm x) rfl rfl rfl (by simp only [go_sem,simprocAttr,ag,hR,ak]) rfl ?_|refine aa hX hC hP (aX f.pl x hp) rfl rfl rfl (by simp only [go_sem,simprocAttr,ag,hR,ak]) rfl ?_|refine aa hX hC hP (dX [vw g,sI f.pl] f.row x hr) rfl rfl rfl (by simp only [go_sem,simprocAttr,ag,hR,ak]) rfl ?_|refine aa hX hC hP (fW [vw g,sI f.pl] f.row x a b hab qg hr) rfl rfl rfl (by simp only [go_sem,simprocAttr,ag,hR,ak]) rfl ?_);try simp only [go_sem,simprocAttr,ag,hR,ak])|(intro h))
  have ak:decide (x<0)=false:=decide_eq_false h1
  by_cases h2:g.n≤x
  ·have an:decide (g.n≤x)=true:=decide_eq_true h2
   repeat' (first|((first|((with_reducible (first|apply oA|apply oB));exact rfl;intro K hK)|(refine hK _ ?_;clear hK K)|((with_reducible (first|apply oG|apply oH));iterate 3 exact rfl)|((with_reducible apply oI);(iterate 2 exact rfl);intro K hK)|(with_reducible (first|apply wI|apply wJ|apply wK)));try simp only [go_sem,simprocAttr,ag,hR,ak,an])|(with_reducible (first|apply oC|apply oJ|exact oK|apply wA|apply wB|apply wC hX hC|apply wD hX hC|apply wE hX hC af|apply wF hX hC af|apply wG|apply wH|apply And.intro))|((with_reducible refine oD ?_ ?_);kernel_rfl)|((with_reducible (first|apply oE|apply oF));(iterate 3 exact rfl);all_goals (intro h;first|(exact absurd h (by decide))|((try simp only [go_sem,simprocAttr,ag,hR,ak,an] at h);(try with_reducible intro K hK);simp only [go_sem,simprocAttr,ag,hR,ak,an])))|((first|((with_reducible apply wL);exact rfl)|((with_reducible apply wM);exact rfl));all_goals (try ((with_reducible intro h);first|(exact absurd h (by decide))|(try simp only [go_sem,simprocAttr,ag,hR,ak,an] at h))))|omega|((first|refine aa hX hC hP (jy g hm x) rfl rfl rfl (by simp only [go_sem,simprocAttr,ag,hR,ak,an]) rfl ?_|refine aa hX hC hP (aX f.pl x hp) rfl rfl rfl (by simp only [go_sem,simprocAttr,ag,hR,ak,an]) rfl ?_|refine aa hX hC hP (dX [vw g,sI f.pl] f.row x hr) rfl rfl rfl (by simp only [go_sem,simprocAttr,ag,hR,ak,an]) rfl ?_|refine aa hX hC hP (fW [vw g,sI f.pl] f.row x a b hab qg hr) rfl rfl rfl (by simp only [go_sem,simprocAttr,ag,hR,ak,an]) rfl ?_);try simp only [go_sem,simprocAttr,ag,hR,ak,an])|(intro h))
  have an:decide (g.n≤x)=false:=decide_eq_false h2
  have h3:x∈f.pl:=by rcases hx with h|h|h;exact absurd h h1;exact absurd h h2;exact h
  have bu:decide (x∈f.pl)=true:=decide_eq_true h3
  repeat' (first|((first|((with_reducible (first|apply oA|apply oB));exact rfl;intro K hK)|(refine hK _ ?_;clear hK K)|((with_reducible (first|apply oG|apply oH));iterate 3 exact rfl)|((with_reducible apply oI);(iterate 2 exact rfl);intro K hK)|(with_reducible (first|apply wI|apply wJ|apply wK)));try simp only [go_sem,simprocAttr,ag,hR,ak,an,bu])|(with_reducible (first|apply oC|apply oJ|exact oK|apply wA|apply wB|apply wC hX hC|apply wD hX hC|apply wE hX hC af|apply wF hX hC af|apply wG|apply wH|apply And.intro))|((with_reducible refine oD ?_ ?_);kernel_rfl)|((with_reducible (first|apply oE|apply oF));(iterate 3 exact rfl);all_goals (intro h;first|(exact absurd h (by decide))|((try simp only [go_sem,simprocAttr,ag,hR,ak,an,bu] at h);(try with_reducible intro K hK);simp only [go_sem,simprocAttr,ag,hR,ak,an,bu])))|((first|((with_reducible apply wL);exact rfl)|((with_reducible apply wM);exact rfl));all_goals (try ((with_reducible intro h);first|(exact absurd h (by decide))|(try simp only [go_sem,simprocAttr,ag,hR,ak,an,bu] at h))))|omega|((first|refine aa hX hC hP (jy g hm x) rfl rfl rfl (by simp only [go_sem,simprocAttr,ag,hR,ak,an,bu]) rfl ?_|refine aa hX hC hP (aX f.pl x hp) rfl rfl rfl (by simp only [go_sem,simprocAttr,ag,hR,ak,an,bu]) rfl ?_|refine aa hX hC hP (dX [vw g,sI f.pl] f.row x hr) rfl rfl rfl (by simp only [go_sem,simprocAttr,ag,hR,ak,an,bu]) rfl ?_|refine aa hX hC hP (fW [vw g,sI f.pl] f.row x a b hab qg hr) rfl rfl rfl (by simp only [go_sem,simprocAttr,ag,hR,ak,an,bu]) rfl ?_);try simp only [go_sem,simprocAttr,ag,hR,ak,an,bu])|(intro h))
 ·have ak:decide (x<0)=false:=decide_eq_false fun h=>hx (.inl h)
  have an:decide (g.n≤x)=false:=decide_eq_false fun h=>hx (.inr (.inl h))
  have bu:decide (x∈f.pl)=false:=decide_eq_false fun h=>hx (.inr (.inr h))
  have hR:dU g f x=(decide ((aV f.row x).2.2=((bp (·.2) g x).length:Int))&&(decide ((bp (·.2) g x).length=0)||o6 f.row x (aV f.row x).1.toNat (aV f.row x).2.1.toNat)):=if_neg hx
  by_cases h4:(aV f.row x).2.2=((bp (·.2) g x).length:Int)
  ·have hb4:decide ((aV f.row x).2.2=((bp (·.2) g x).length:Int))=true:=decide_eq_true h4
   by_cases h5:(bp (·.2) g x).length=0
   ·have uY:decide (((bp (·.2) g x).length:Int)=0)=true:=decide_eq_true (by omega)
    rw [hb4,decide_eq_true h5] at hR
    (refine Spec.intro (C:=T.cfg [] []) (rs:= [.t 4]) (T.ai _ _) Tryz.func123 rfl rfl Tryz.ntmps123 Tryz.results123 (by simp [AObj.isNest]) (by simp [AObj.isNest]) (by kernel_rfl) ?_;intro X hX hP hC aH aI vals hA;refine ⟨_,by simp,hA, ?_⟩;have af:X.P.follows .mixedOrders=true:=(by rw [hP];exact T.mixed);clear aH aI)
    repeat' (first|((first|((with_reducible (first|apply oA|apply oB));exact rfl;intro K hK)|(refine hK _ ?_;clear hK K)|((with_reducible (first|apply oG|apply oH));iterate 3 exact rfl)|((with_reducible apply oI);(iterate 2 exact rfl);intro K hK)|(with_reducible (first|apply wI|apply wJ|apply wK)));try simp only [go_sem,simprocAttr,ag,hR,ak,an,bu,hb4,uY])|(with_reducible (first|apply oC|apply oJ|exact oK|apply wA|apply wB|apply wC hX hC|apply wD hX hC|apply wE hX hC af|apply wF hX hC af|apply wG|apply wH|apply And.intro))|((with_reducible refine oD ?_ ?_);kernel_rfl)|((with_reducible (first|apply oE|apply oF));(iterate 3 exact rfl);all_goals (intro h;first|(exact absurd h (by decide))|((try simp only [go_sem,simprocAttr,ag,hR,ak,an,bu,hb4,uY] at h);(try with_reducible intro K hK);simp only [go_sem,simprocAttr,ag,hR,ak,an,bu,hb4,uY])))|((first|((with_reducible apply wL);exact rfl)|((with_reducible apply wM);exact rfl));all_goals (try ((with_reducible intro h);first|(exact absurd h (by decide))|(try simp only [go_sem,simprocAttr,ag,hR,ak,an,bu,hb4,uY] at h))))|omega|((first|refine aa hX hC hP (jy g hm x) rfl rfl rfl (by simp only [go_sem,simprocAttr,ag,hR,ak,an,bu,hb4,uY]) rfl ?_|refine aa hX hC hP (aX f.pl x hp) rfl rfl rfl (by simp only [go_sem,simprocAttr,ag,hR,ak,an,bu,hb4,uY]) rfl ?_|refine aa hX hC hP (dX [vw g,sI f.pl] f.row x hr) rfl rfl rfl (by simp only [go_sem,simprocAttr,ag,hR,ak,an,bu,hb4,uY]) rfl ?_|refine aa hX hC hP (fW [vw g,sI f.pl] f.row x a b hab qg hr) rfl rfl rfl (by simp only [go_sem,simprocAttr,ag,hR,ak,an,bu,hb4,uY]) rfl ?_);try simp only [go_sem,simprocAttr,ag,hR,ak,an,bu,hb4,uY])|(intro h))
   ·have uY:decide (((bp (·.2) g x).length:Int)=0)=false:=decide_eq_false (by omega)
    rcases cP (row:=f.row) (x:=x) f.row.length with ⟨h6,_⟩|⟨a,b,c,h6,hab,qg,_⟩
    ·exfalso
     have:(aV f.row x).2.2=0:=by unfold aV;rw [h6]
     omega
    ·have hsp:aV f.row x=((a:Int),(b:Int),(c:Int)):=h6
     have hab:a≤b:=by omega
     rw [hb4,decide_eq_false h5,hsp] at hR
     simp only [Bool.true_and,Bool.false_or,Int.toNat_natCast] at hR
     rw [hsp] at hb4
     (refine Spec.intro (C:=T.cfg [] []) (rs:= [.t 4]) (T.ai _ _) Tryz.func123 rfl rfl Tryz.ntmps123 Tryz.results123 (by simp [AObj.isNest]) (by simp [AObj.isNest]) (by kernel_rfl) ?_;intro X hX hP hC aH aI vals hA;refine ⟨_,by simp,hA, ?_⟩;have af:X.P.follows .mixedOrders=true:=(by rw [hP];exact T.mixed);clear aH aI)
     repeat' (first|((first|((with_reducible (first|apply oA|apply oB));exact rfl;intro K hK)|(refine hK _ ?_;clear hK K)|((with_reducible (first|apply oG|apply oH));iterate 3 exact rfl)|((with_reducible apply oI);(iterate 2 exact rfl);intro K hK)|(with_reducible (first|apply wI|apply wJ|apply wK)));try simp only [go_sem,simprocAttr,ag,hR,ak,an,bu,hb4,uY,hsp])|(with_reducible (first|apply oC|apply oJ|exact oK|apply wA|apply wB|apply wC hX hC|apply wD hX hC|apply wE hX hC af|apply wF hX hC af|apply wG|apply wH|apply And.intro))|((with_reducible refine oD ?_ ?_);kernel_rfl)|((with_reducible (first|apply oE|apply oF));(iterate 3 exact rfl);all_goals (intro h;first|(exact absurd h (by decide))|((try simp only [go_sem,simprocAttr,ag,hR,ak,an,bu,hb4,uY,hsp] at h);(try with_reducible intro K hK);simp only [go_sem,simprocAttr,ag,hR,ak,an,bu,hb4,uY,hsp])))|((first|((with_reducible apply wL);exact rfl)|((with_reducible apply wM);exact rfl));all_goals (try ((with_reducible intro h);first|(exact absurd h (by decide))|(try simp only [go_sem,simprocAttr,ag,hR,ak,an,bu,hb4,uY,hsp] at h))))|omega|((first|refine aa hX hC hP (jy g hm x) rfl rfl rfl (by simp only [go_sem,simprocAttr,ag,hR,ak,an,bu,hb4,uY,hsp]) rfl ?_|refine aa hX hC hP (aX f.pl x hp) rfl rfl rfl (by simp only [go_sem,simprocAttr,ag,hR,ak,an,bu,hb4,uY,hsp]) rfl ?_|refine aa hX hC hP (dX [vw g,sI f.pl] f.row x hr) rfl rfl rfl (by simp only [go_sem,simprocAttr,ag,hR,ak,an,bu,hb4,uY,hsp]) rfl ?_|refine aa hX hC hP (fW [vw g,sI f.pl] f.row x a b hab qg hr) rfl rfl rfl (by simp only [go_sem,simprocAttr,ag,hR,ak,an,bu,hb4,uY,hsp]) rfl ?_);try simp only [go_sem,simprocAttr,ag,hR,ak,an,bu,hb4,uY,hsp])|(intro h))
  ·have hb4:decide ((aV f.row x).2.2=((bp (·.2) g x).length:Int))=false:=decide_eq_false h4
   rw [hb4,Bool.false_and] at hR
   (refine Spec.intro (C:=T.cfg [] []) (rs:= [.t 4]) (T.ai _ _) Tryz.func123 rfl rfl Tryz.ntmps123 Tryz.results123 (by simp [AObj.isNest]) (by simp [AObj.isNest]) (by kernel_rfl) ?_;intro X hX hP hC aH aI vals hA;refine ⟨_,by simp,hA, ?_⟩;have af:X.P.follows .mixedOrders=true:=(by rw [hP];exact T.mixed);clear aH aI)
   repeat' (first|((first|((with_reducible (first|apply oA|apply oB));exact rfl;intro K hK)|(refine hK _ ?_;clear hK K)|((with_reducible (first|apply oG|apply oH));iterate 3 exact rfl)|((with_reducible apply oI);(iterate 2 exact rfl);intro K hK)|(with_reducible (first|apply wI|apply wJ|apply wK)));try simp only [go_sem,simprocAttr,ag,hR,ak,an,bu,hb4])|(with_reducible (first|apply oC|apply oJ|exact oK|apply wA|apply wB|apply wC hX hC|apply wD hX hC|apply wE hX hC af|apply wF hX hC af|apply wG|apply wH|apply And.intro))|((with_reducible refine oD ?_ ?_);kernel_rfl)|((with_reducible (first|apply oE|apply oF));(iterate 3 exact rfl);all_goals (intro h;first|(exact absurd h (by decide))|((try simp only [go_sem,simprocAttr,ag,hR,ak,an,bu,hb4] at h);(try with_reducible intro K hK);simp only [go_sem,simprocAttr,ag,hR,ak,an,bu,hb4])))|((first|((with_reducible apply wL);exact rfl)|((with_reducible apply wM);exact rfl));all_goals (try ((with_reducible intro h);first|(exact absurd h (by decide))|(try simp only [go_sem,simprocAttr,ag,hR,ak,an,bu,hb4] at h))))|omega|((first|refine aa hX hC hP (jy g hm x) rfl rfl rfl (by simp only [go_sem,simprocAttr,ag,hR,ak,an,bu,hb4]) rfl ?_|refine aa hX hC hP (aX f.pl x hp) rfl rfl rfl (by simp only [go_sem,simprocAttr,ag,hR,ak,an,bu,hb4]) rfl ?_|refine aa hX hC hP (dX [vw g,sI f.pl] f.row x hr) rfl rfl rfl (by simp only [go_sem,simprocAttr,ag,hR,ak,an,bu,hb4]) rfl ?_|refine aa hX hC hP (fW [vw g,sI f.pl] f.row x a b hab qg hr) rfl rfl rfl (by simp only [go_sem,simprocAttr,ag,hR,ak,an,bu,hb4]) rfl ?_);try simp only [go_sem,simprocAttr,ag,hR,ak,an,bu,hb4])|(intro h))
theorem AA (ds:List D) (row:List It) (hr:row.length≤1000000):Spec Tryz.prog 84 (Args [.d (.pt (sT row::ds))]) [] (.ref 10000) [(10000, .tip 100 3 (row.map rT))]:=by
 (refine Spec.dO (C:=T.cfg [] []) (rs:= [.t 2]) [(10000,7)] (T.ai _ _) Tryz.func84 rfl rfl Tryz.ntmps84 Tryz.results84 (by simp [AObj.isNest]) (by simp [AObj.isNest]) (by first|(simp [look];done)|(simp [asN];done)|(intro l hl;simp only [asN];repeat (rw [if_neg (fun e=>by subst e;simp [look] at hl)]))) (by first|(simp [look];done)|(simp [asN];done)|(intro l hl;simp only [asN];repeat (rw [if_neg (fun e=>by subst e;simp [look] at hl)]))) (by kernel_rfl) ?_;intro X hX hP hC aH aI vals hA;refine ⟨_,by simp,hA, ?_⟩;have af:X.P.follows .mixedOrders=true:=(by rw [hP];exact T.mixed);clear aH aI)
 repeat' (first|((first|((with_reducible (first|apply oA|apply oB));exact rfl;intro K hK)|(refine hK _ ?_;clear hK K)|((with_reducible (first|apply oG|apply oH));iterate 3 exact rfl)|((with_reducible apply oI);(iterate 2 exact rfl);intro K hK)|(with_reducible (first|apply wI|apply wJ|apply wK)));try simp only [go_sem,simprocAttr])|(with_reducible (first|apply oC|apply oJ|exact oK|apply wA|apply wB|apply wC hX hC|apply wD hX hC|apply wE hX hC af|apply wF hX hC af|apply wG|apply wH|apply And.intro))|((with_reducible refine oD ?_ ?_);kernel_rfl)|((with_reducible (first|apply oE|apply oF));(iterate 3 exact rfl);all_goals (intro h;first|(exact absurd h (by decide))|((try simp only [go_sem,simprocAttr] at h);(try with_reducible intro K hK);simp only [go_sem,simprocAttr])))|((first|((with_reducible apply wL);exact rfl)|((with_reducible apply wM);exact rfl));all_goals (try ((with_reducible intro h);first|(exact absurd h (by decide))|(try simp only [go_sem,simprocAttr] at h))))|omega|((first|(refine aA hX hC hP [(10000,7)] (o5 row hr) rfl rfl rfl ?_ ?_ ?_ ?_ ?_ ?_ ?_ ?_ ?_ ?_ ?_ ?_ ?_ ?_;(focus (simp only [go_sem,simprocAttr];done));(iterate 12 (focus (simp [go_sem,simprocAttr];done)));simp only [go_sem,simprocAttr,List.map_cons,List.map_nil]));try simp only [go_sem,simprocAttr])|(intro h))
end Go.Ab
end
section
namespace Go.Ab
open Go.Proofs
attribute [local congr] ACall.congr
set_option maxRecDepth 10000
set_option maxHeartbeats 2000000
theorem cy (l:List Int):Spec Tryz.prog 121 (Args [.d (sI l)]) [] (.fn 171 [] [.ptr 10000 0]) [(10000, .box [.d (sI l)])]:=by
 (refine Spec.dO (C:=T.cfg [] []) (rs:= [.t 2]) [(10000,1)] (T.ai _ _) Tryz.func121 rfl rfl Tryz.ntmps121 Tryz.results121 (by simp [AObj.isNest]) (by simp [AObj.isNest]) (by first|(simp [look];done)|(simp [asN];done)|(intro l hl;simp only [asN];repeat (rw [if_neg (fun e=>by subst e;simp [look] at hl)]))) (by first|(simp [look];done)|(simp [asN];done)|(intro l hl;simp only [asN];repeat (rw [if_neg (fun e=>by subst e;simp [look] at hl)]))) (by kernel_rfl) ?_;intro X hX hP hC aH aI vals hA;refine ⟨_,by simp,hA, ?_⟩;have af:X.P.follows .mixedOrders=true:=(by rw [hP];exact T.mixed);clear aH aI)
 repeat' (first|((first|((with_reducible (first|apply oA|apply oB));exact rfl;intro K hK)|(refine hK _ ?_;clear hK K)|((with_reducible (first|apply oG|apply oH));iterate 3 exact rfl)|((with_reducible apply oI);(iterate 2 exact rfl);intro K hK)|(with_reducible (first|apply wI|apply wJ|apply wK)));try simp only [go_sem,simprocAttr])|(with_reducible (first|apply oC|apply oJ|exact oK|apply wA|apply wB|apply wC hX hC|apply wD hX hC|apply wE hX hC af|apply wF hX hC af|apply wG|apply wH|apply And.intro))|((with_reducible refine oD ?_ ?_);kernel_rfl)|((with_reducible (first|apply oE|apply oF));(iterate 3 exact rfl);all_goals (intro h;first|(exact absurd h (by decide))|((try simp only [go_sem,simprocAttr] at h);(try with_reducible intro K hK);simp only [go_sem,simprocAttr])))|((first|((with_reducible apply wL);exact rfl)|((with_reducible apply wM);exact rfl));all_goals (try ((with_reducible intro h);first|(exact absurd h (by decide))|(try simp only [go_sem,simprocAttr] at h))))|omega|(intro h))
theorem fm (xs ys:List Int) (hlen:xs.length≤9223372036854775807):Spec Tryz.prog 122 (Args [.d (sI xs), .d (sI ys)]) [] (eB (decide (xs=ys))) []:=by
 (refine Spec.intro (C:=T.cfg [] []) (rs:= [.t 4]) (T.ai _ _) Tryz.func122 rfl rfl Tryz.ntmps122 Tryz.results122 (by simp [AObj.isNest]) (by simp [AObj.isNest]) (by kernel_rfl) ?_;intro X hX hP hC aH aI vals hA;refine ⟨_,by simp,hA, ?_⟩;have af:X.P.follows .mixedOrders=true:=(by rw [hP];exact T.mixed);clear aH aI)
 repeat' (first|((first|((with_reducible (first|apply oA|apply oB));exact rfl;intro K hK)|(refine hK _ ?_;clear hK K)|((with_reducible (first|apply oG|apply oH));iterate 3 exact rfl)|((with_reducible apply oI);(iterate 2 exact rfl);intro K hK)|(with_reducible (first|apply wI|apply wJ|apply wK)));try simp only [go_sem,simprocAttr])|(with_reducible (first|apply oC|apply oJ|exact oK|apply wA|apply wB|apply wC hX hC|apply wD hX hC|apply wE hX hC af|apply wF hX hC af|apply wG|apply wH|apply And.intro))|((with_reducible refine oD ?_ ?_);kernel_rfl)|((with_reducible (first|apply oE|apply oF));(iterate 3 exact rfl);all_goals (intro h;first|(exact absurd h (by decide))|((try simp only [go_sem,simprocAttr] at h);(try with_reducible intro K hK);simp only [go_sem,simprocAttr])))|((first|((with_reducible apply wL);exact rfl)|((with_reducible apply wM);exact rfl));all_goals (try ((with_reducible intro h);first|(exact absurd h (by decide))|(try simp only [go_sem,simprocAttr] at h))))|omega|(intro h))
 ·have:xs≠ys:=fun e=>h (by rw [e])
  simp [this]
 refine aj (fun k:Nat=>k≤xs.length∧xs.take k=ys.take k) (fun k=>⟨[(0, .d (sI xs)),(1, .d (sI ys)),(12,eN xs.length),(13,eN k)], []⟩) (fun k=>xs.length - k) 0 (by simp) ?_ ?_
 ·(refine ⟨bJ ?_,fun _ _ h=>h⟩;simp [go_sem,simprocAttr])
 rintro k ⟨hk,hp⟩
 have zT:xs.length=ys.length:=by omega
 repeat' (first|((first|((with_reducible (first|apply oA|apply oB));exact rfl;intro K hK)|(refine hK _ ?_;clear hK K)|((with_reducible (first|apply oG|apply oH));iterate 3 exact rfl)|((with_reducible apply oI);(iterate 2 exact rfl);intro K hK)|(with_reducible (first|apply wI|apply wJ|apply wK)));try simp only [go_sem,simprocAttr])|(with_reducible (first|apply oC|apply oJ|exact oK|apply wA|apply wB|apply wC hX hC|apply wD hX hC|apply wE hX hC af|apply wF hX hC af|apply wG|apply wH|apply And.intro))|((with_reducible refine oD ?_ ?_);kernel_rfl)|((with_reducible (first|apply oE|apply oF));(iterate 3 exact rfl);all_goals (intro h;first|(exact absurd h (by decide))|((try simp only [go_sem,simprocAttr] at h);(try with_reducible intro K hK);simp only [go_sem,simprocAttr])))|((first|((with_reducible apply wL);exact rfl)|((with_reducible apply wM);exact rfl));all_goals (try ((with_reducible intro h);first|(exact absurd h (by decide))|(try simp only [go_sem,simprocAttr] at h))))|omega|(intro h))
 ·have:xs≠ys:=fun e=>h (by rw [e])
  simp [this]
 ·refine ⟨k+1,⟨by omega,s9 0 (by omega) (by omega) hp h⟩, ?_,by omega⟩
  (refine ⟨bJ ?_,fun _ _ h=>h⟩;simp [go_sem,simprocAttr])
 ·have:k=xs.length:=by omega
  subst this
  rw [List.take_of_length_le (Nat.le_refl _),List.take_of_length_le (by omega)] at hp
  simp [hp]
def fq (g:Gr) (x:Int) (i:Int):It:=(i,x,(g.es.getD i.toNat (0,0)).2)
def aM (g:Gr) (x:Int) (outs:List Int):List It:=if outs= [] then [(-1,x, -1)] else outs.map (fq g x)
theorem ry {α β:Type} {f:α→β} {l:List α} {d:α} {k:Nat} (h:k<l.length):(l.take (k+1)).map f=(l.take k).map f++ [f (l.getD k d)]:=by
 rw [List.take_add_one,List.map_append,List.getElem?_eq_getElem h,List.getD_eq_getElem?_getD,List.getElem?_eq_getElem h]
 rfl
theorem yh (g:Gr) (f:Fr) (x:Int) (outs:List Int) (hl:outs.length≤1000000) (ho:∀i∈outs,0≤i∧i<g.es.length):Spec Tryz.prog 126 (Args [.d (dB g f),eN x, .d (sI outs)]) [] (.ref 10000) [(10000, .tip 100 3 ((aM g x outs).map rT))]:=by
 unfold dB
 by_cases h0:outs= []
 ·subst h0
  have hA:aM g x []= [(-1,x, -1)]:=if_pos rfl
  rw [hA]
  (refine Spec.dO (C:=T.cfg [] []) (rs:= [.t 6]) [(10000,14)] (T.ai _ _) Tryz.func126 rfl rfl Tryz.ntmps126 Tryz.results126 (by simp [AObj.isNest]) (by simp [AObj.isNest]) (by first|(simp [look];done)|(simp [asN];done)|(intro l hl;simp only [asN];repeat (rw [if_neg (fun e=>by subst e;simp [look] at hl)]))) (by first|(simp [look];done)|(simp [asN];done)|(intro l hl;simp only [asN];repeat (rw [if_neg (fun e=>by subst e;simp [look] at hl)]))) (by kernel_rfl) ?_;intro X hX hP hC aH aI vals hA;refine ⟨_,by simp,hA, ?_⟩;have af:X.P.follows .mixedOrders=true:=(by rw [hP];exact T.mixed);clear aH aI)
  repeat' (first|((first|((with_reducible (first|apply oA|apply oB));exact rfl;intro K hK)|(refine hK _ ?_;clear hK K)|((with_reducible (first|apply oG|apply oH));iterate 3 exact rfl)|((with_reducible apply oI);(iterate 2 exact rfl);intro K hK)|(with_reducible (first|apply wI|apply wJ|apply wK)));try simp only [go_sem,simprocAttr,ag])|(with_reducible (first|apply oC|apply oJ|exact oK|apply wA|apply wB|apply wC hX hC|apply wD hX hC|apply wE hX hC af|apply wF hX hC af|apply wG|apply wH|apply And.intro))|((with_reducible refine oD ?_ ?_);kernel_rfl)|((with_reducible (first|apply oE|apply oF));(iterate 3 exact rfl);all_goals (intro h;first|(exact absurd h (by decide))|((try simp only [go_sem,simprocAttr,ag] at h);(try with_reducible intro K hK);simp only [go_sem,simprocAttr,ag])))|((first|((with_reducible apply wL);exact rfl)|((with_reducible apply wM);exact rfl));all_goals (try ((with_reducible intro h);first|(exact absurd h (by decide))|(try simp only [go_sem,simprocAttr,ag] at h))))|omega|(intro h))
 ·have hA:aM g x outs=outs.map (fq g x):=if_neg h0
  rw [hA]
  have hb0:decide ((outs.length:Int)=0)=false:=decide_eq_false fun h=>h0 (List.eq_nil_of_length_eq_zero (by omega))
  (refine Spec.dO (C:=T.cfg [] []) (rs:= [.t 6]) [(10000,38)] (T.ai _ _) Tryz.func126 rfl rfl Tryz.ntmps126 Tryz.results126 (by simp [AObj.isNest]) (by simp [AObj.isNest]) (by first|(simp [look];done)|(simp [asN];done)|(intro l hl;simp only [asN];repeat (rw [if_neg (fun e=>by subst e;simp [look] at hl)]))) (by first|(simp [look];done)|(simp [asN];done)|(intro l hl;simp only [asN];repeat (rw [if_neg (fun e=>by subst e;simp [look] at hl)]))) (by kernel_rfl) ?_;intro X hX hP hC aH aI vals hA;refine ⟨_,by simp,hA, ?_⟩;have af:X.P.follows .mixedOrders=true:=(by rw [hP];exact T.mixed);clear aH aI)
  repeat' (first|((first|((with_reducible (first|apply oA|apply oB));exact rfl;intro K hK)|(refine hK _ ?_;clear hK K)|((with_reducible (first|apply oG|apply oH));iterate 3 exact rfl)|((with_reducible apply oI);(iterate 2 exact rfl);intro K hK)|(with_reducible (first|apply wI|apply wJ|apply wK)));try simp only [go_sem,simprocAttr,ag,hb0])|(with_reducible (first|apply oC|apply oJ|exact oK|apply wA|apply wB|apply wC hX hC|apply wD hX hC|apply wE hX hC af|apply wF hX hC af|apply wG|apply wH|apply And.intro))|((with_reducible refine oD ?_ ?_);kernel_rfl)|((with_reducible (first|apply oE|apply oF));(iterate 3 exact rfl);all_goals (intro h;first|(exact absurd h (by decide))|((try simp only [go_sem,simprocAttr,ag,hb0] at h);(try with_reducible intro K hK);simp only [go_sem,simprocAttr,ag,hb0])))|((first|((with_reducible apply wL);exact rfl)|((with_reducible apply wM);exact rfl));all_goals (try ((with_reducible intro h);first|(exact absurd h (by decide))|(try simp only [go_sem,simprocAttr,ag,hb0] at h))))|omega|(intro h))
  (refine gm hX 6 38 (.tip 100 3 []) (by simp only [go_sem,simprocAttr,ag,hb0]) (by simp only [go_sem,simprocAttr,ag,hb0]) (by decide) ⟨100,3,by decide, .inr rfl⟩ ?_;simp only [go_sem,simprocAttr,ag,hb0])
  refine aj (fun k:Nat=>k≤outs.length) (fun k=>⟨[(0, .d (dB g f)),(1,eN x),(15, .d (sI outs)),(16,eN outs.length),(17,eN k),(6, .ref 38)], [(38, .tip 100 3 (((outs.take k).map (fq g x)).map rT))]⟩) (fun k=>outs.length - k) 0 (by omega) ?_ ?_
  ·refine Le.of ?_ ?_<;>simp [go_sem,simprocAttr,ag,hb0,dB]
  unfold dB
  rintro k hk
  rcases Nat.lt_or_ge k outs.length with hlt|hge
  ·have hb:decide ((k:Int)<(outs.length:Int))=true:=decide_eq_true (by omega)
   have c7:=ry (f:=fq g x) (d:=0) hlt
   have GQ:=ho _ (bS (d:=0) hlt)
   have hlk:(outs.take k).length=k:=by simp;omega
   repeat' (first|((first|((with_reducible (first|apply oA|apply oB));exact rfl;intro K hK)|(refine hK _ ?_;clear hK K)|((with_reducible (first|apply oG|apply oH));iterate 3 exact rfl)|((with_reducible apply oI);(iterate 2 exact rfl);intro K hK)|(with_reducible (first|apply wI|apply wJ|apply wK)));try simp only [go_sem,simprocAttr,ag,hb,hlk])|(with_reducible (first|apply oC|apply oJ|exact oK|apply wA|apply wB|apply wC hX hC|apply wD hX hC|apply wE hX hC af|apply wF hX hC af|apply wG|apply wH|apply And.intro))|((with_reducible refine oD ?_ ?_);kernel_rfl)|((with_reducible (first|apply oE|apply oF));(iterate 3 exact rfl);all_goals (intro h;first|(exact absurd h (by decide))|((try simp only [go_sem,simprocAttr,ag,hb,hlk] at h);(try with_reducible intro K hK);simp only [go_sem,simprocAttr,ag,hb,hlk])))|((first|((with_reducible apply wL);exact rfl)|((with_reducible apply wM);exact rfl));all_goals (try ((with_reducible intro h);first|(exact absurd h (by decide))|(try simp only [go_sem,simprocAttr,ag,hb,hlk] at h))))|omega|(intro h))
   refine ⟨k+1,by omega, ?_,by omega⟩
   refine Le.of ?_ ?_<;>simp [go_sem,simprocAttr,ag,hb,hlk,c7,fq]
  ·have hb:decide ((k:Int)<(outs.length:Int))=false:=decide_eq_false (by omega)
   obtain rfl:k=outs.length:=by omega
   have ht:outs.take outs.length=outs:=List.take_of_length_le (by omega)
   repeat' (first|((first|((with_reducible (first|apply oA|apply oB));exact rfl;intro K hK)|(refine hK _ ?_;clear hK K)|((with_reducible (first|apply oG|apply oH));iterate 3 exact rfl)|((with_reducible apply oI);(iterate 2 exact rfl);intro K hK)|(with_reducible (first|apply wI|apply wJ|apply wK)));try simp only [go_sem,simprocAttr,ag,hb,ht])|(with_reducible (first|apply oC|apply oJ|exact oK|apply wA|apply wB|apply wC hX hC|apply wD hX hC|apply wE hX hC af|apply wF hX hC af|apply wG|apply wH|apply And.intro))|((with_reducible refine oD ?_ ?_);kernel_rfl)|((with_reducible (first|apply oE|apply oF));(iterate 3 exact rfl);all_goals (intro h;first|(exact absurd h (by decide))|((try simp only [go_sem,simprocAttr,ag,hb,ht] at h);(try with_reducible intro K hK);simp only [go_sem,simprocAttr,ag,hb,ht])))|((first|((with_reducible apply wL);exact rfl)|((with_reducible apply wM);exact rfl));all_goals (try ((with_reducible intro h);first|(exact absurd h (by decide))|(try simp only [go_sem,simprocAttr,ag,hb,ht] at h))))|omega|(intro h))
def eH (g:Gr) (f:Fr):List (Nat × AObj):= [(10000, .box [.d (sT f.row), .d (vw g), .ref 10001]),(10001, .tip 3 1 (f.pl.map rI))]
theorem uZ (row items:List It) (a b:Nat) (h0:0<items.length) (hr:row.length≤400000) (hi:items.length≤100000):Spec Tryz.prog 174 (Args [.d (.sl 1 [[.sl 3 (List.take a (row.map rT))], [.sl 3 (items.map rT)], [.sl 3 (List.drop b (row.map rT))]])]) [] (.d (sT (row.take a++items++row.drop b))) []:=by
 have hf: [row.take a,items,row.drop b].flatten=row.take a++items++row.drop b:=by simp
 have hlen: [row.take a,items,row.drop b].flatten.length=min a row.length+items.length+(row.length - b):=by simp;omega
 have:=uX [row.take a,items,row.drop b] (by simp) (by omega) (by omega)
 rw [hf] at this
 simpa only [vT,List.map_cons,List.map_nil,sT,List.map_take,List.map_drop] using this
theorem AB (g:Gr) (row items:List It) (pl:List Int) (a b:Nat) (hab:a≤b) (hb:b≤row.length) (h0:0<items.length) (hr:row.length≤400000) (hi:items.length≤100000):
 Spec Tryz.prog 125 (Args [.ptr 10000 0,eN a,eN b, .ref 10003]) (eH g ⟨row,pl⟩++ [(10003, .tip 100 3 (items.map rT))]) (.d (sT ((row.take b).drop a))) (eH g ⟨row.take a++items++row.drop b,pl⟩):=by
 have dI:((row.take b).drop a).length≤1000000:=by simp;omega
 have vm:List.take row.length (row.map rT)=row.map rT:=List.take_of_length_le (by simp)
 unfold eH
 simp only [List.cons_append,List.nil_append]
 (refine Spec.intro (C:=T.cfg [] []) (rs:= [.t 8]) (T.ai _ _) Tryz.func125 rfl rfl Tryz.ntmps125 Tryz.results125 (by simp [AObj.isNest]) (by simp [AObj.isNest]) (by kernel_rfl) ?_;intro X hX hP hC aH aI vals hA;refine ⟨_,by simp,hA, ?_⟩;have af:X.P.follows .mixedOrders=true:=(by rw [hP];exact T.mixed);clear aH aI)
 repeat' (first|((first|((with_reducible (first|apply oA|apply oB));exact rfl;intro K hK)|(refine hK _ ?_;clear hK K)|((with_reducible (first|apply oG|apply oH));iterate 3 exact rfl)|((with_reducible apply oI);(iterate 2 exact rfl);intro K hK)|(with_reducible (first|apply wI|apply wJ|apply wK)));try simp only [go_sem,simprocAttr,List.map_take,List.map_drop,vm])|(with_reducible (first|apply oC|apply oJ|exact oK|apply wA|apply wB|apply wC hX hC|apply wD hX hC|apply wE hX hC af|apply wF hX hC af|apply wG|apply wH|apply And.intro))|((with_reducible refine oD ?_ ?_);kernel_rfl)|((with_reducible (first|apply oE|apply oF));(iterate 3 exact rfl);all_goals (intro h;first|(exact absurd h (by decide))|((try simp only [go_sem,simprocAttr,List.map_take,List.map_drop,vm] at h);(try with_reducible intro K hK);simp only [go_sem,simprocAttr,List.map_take,List.map_drop,vm])))|((first|((with_reducible apply wL);exact rfl)|((with_reducible apply wM);exact rfl));all_goals (try ((with_reducible intro h);first|(exact absurd h (by decide))|(try simp only [go_sem,simprocAttr,List.map_take,List.map_drop,vm] at h))))|omega|((first|(refine aA hX hC hP [(10000,17)] (o5 ((row.take b).drop a) dI) rfl rfl rfl ?_ ?_ ?_ ?_ ?_ ?_ ?_ ?_ ?_ ?_ ?_ ?_ ?_ ?_;(focus (simp only [go_sem,simprocAttr,List.map_take,List.map_drop,vm];done));(iterate 12 (focus (simp [go_sem,simprocAttr,List.map_take,List.map_drop,vm];done)));simp only [go_sem,simprocAttr,List.map_take,List.map_drop,vm,List.map_cons,List.map_nil])|(refine bQ hX hC hP (uZ row items a b h0 hr hi) rfl rfl rfl ?_ ?_ rfl ?_;iterate 2 (focus (simp only [go_sem,simprocAttr,List.map_take,List.map_drop,vm];done))));try simp only [go_sem,simprocAttr,List.map_take,List.map_drop,vm])|(intro h))
end Go.Ab
end
section
namespace Go.Ab
open Go.Proofs
attribute [local congr] ACall.congr
set_option maxRecDepth 10000
set_option maxHeartbeats 4000000
def jz (g:Gr) (f:Fr):List (Nat × AObj):= [(10000, .box [.d (sT f.row), .d (vw g), .ref 10002]),(10002, .tip 3 1 (f.pl.map rI))]
def iZ (g:Gr) (f:Fr) (x:Int) (outs:List Int):(List It × Int) × Fr:=
 if dU g f x=false then (([],3),f) else if gM outs≠bp (·.1) g x then (([],1),f) else
 (((f.row.take (aV f.row x).2.1.toNat).drop (max (aV f.row x).1 0).toNat,0),⟨f.row.take (max (aV f.row x).1 0).toNat++aM g x outs++f.row.drop (aV f.row x).2.1.toNat,f.pl++ [x]⟩)
theorem ir {f:Edge→Int} {es:List Edge} {k:Nat} {x i:Int} (h:i∈aZ f es k x):(0≤i∧i<k)∧f (es.getD i.toNat (0,0))=x:=by
 simp only [aZ,List.mem_map,List.mem_filter,List.mem_range,decide_eq_true_eq] at h
 obtain ⟨j,⟨h1,h2⟩,rfl⟩:=h
 exact ⟨⟨Int.natCast_nonneg j,by simp;omega⟩,h2⟩
theorem yj {f:Edge→Int} {g:Gr} {x i:Int} (h:i∈bp f g x):(0≤i∧i<g.es.length)∧f (g.es.getD i.toNat (0,0))=x:=by
 unfold bp at h
 split at h
 ·exact ir h
 ·cases h
theorem wT {l:List Int} {x:Int} :x∈gM l↔x∈l:=by simp [gM]
theorem tw (row:List It) (x:Int):∃a b:Nat,max (aV row x).1 0=(a:Int)∧(aV row x).2.1=(b:Int)∧a≤b∧b≤row.length:=by
 rcases cP (row:=row) (x:=x) row.length with ⟨h,_⟩|⟨a,b,c,h,h1,h2,_⟩
 ·exact ⟨0,0,by unfold aV;rw [h];rfl,by unfold aV;rw [h];rfl,by omega,by omega⟩
 ·exact ⟨a,b,by unfold aV;rw [h];simp only;omega,by unfold aV;rw [h],by omega,by omega⟩
theorem j5 {g:Gr} {x:Int} {outs:List Int} :0<(aM g x outs).length∧(aM g x outs).length≤outs.length+1:=by
 unfold aM
 split
 ·simp
 ·rename_i h
  have:=List.length_pos_iff.2 h
  simp;omega
theorem yl (g:Gr) (hm:aL g=true) (f:Fr) (x:Int) (outs:List Int) (hr:f.row.length≤300000) (hp:f.pl.length≤100000) (ho:outs.length≤17592186043904):
 Spec Tryz.prog 83 (Args [.ptr 10000 0,eN x, .d (sI outs)]) (eH g f) (.tup [.d (sT (iZ g f x outs).1.1),eN (iZ g f x outs).1.2]) (jz g (iZ g f x outs).2):=by
 have iW:f.row.length≤1000000:=by omega
 have hp1:f.pl.length≤1000000:=by omega
 have hs:(gM outs).length≤9223372036854775807:=by rw [eP];omega
 have hn:=aR hm
 cases hR:dU g f x with
 |false=>
  have hP:iZ g f x outs=(([],3),f):=if_pos hR
  rw [hP]
  unfold eH jz
  (refine Spec.dO (C:=T.cfg [] []) (rs:= [.t 6, .t 7]) [(10002,10001)] (T.ai _ _) Tryz.func83 rfl rfl Tryz.ntmps83 Tryz.results83 (by simp [AObj.isNest]) (by simp [AObj.isNest]) (by first|(simp [look];done)|(simp [asN];done)|(intro l hl;simp only [asN];repeat (rw [if_neg (fun e=>by subst e;simp [look] at hl)]))) (by first|(simp [look];done)|(simp [asN];done)|(intro l hl;simp only [asN];repeat (rw [if_neg (fun e=>by subst e;simp [look] at hl)]))) (by kernel_rfl) ?_;intro X hX hP hC aH aI vals hA;refine ⟨_,by simp,hA, ?_⟩;have af:X.P.follows .mixedOrders=true:=(by rw [hP];exact T.mixed);clear aH aI)
  repeat' (first|((first|((with_reducible (first|apply oA|apply oB));exact rfl;intro K hK)|(refine hK _ ?_;clear hK K)|((with_reducible (first|apply oG|apply oH));iterate 3 exact rfl)|((with_reducible apply oI);(iterate 2 exact rfl);intro K hK)|(with_reducible (first|apply wI|apply wJ|apply wK)));try simp only [go_sem,simprocAttr,hR,dB])|(with_reducible (first|apply oC|apply oJ|exact oK|apply wA|apply wB|apply wC hX hC|apply wD hX hC|apply wE hX hC af|apply wF hX hC af|apply wG|apply wH|apply And.intro))|((with_reducible refine oD ?_ ?_);kernel_rfl)|((with_reducible (first|apply oE|apply oF));(iterate 3 exact rfl);all_goals (intro h;first|(exact absurd h (by decide))|((try simp only [go_sem,simprocAttr,hR,dB] at h);(try with_reducible intro K hK);simp only [go_sem,simprocAttr,hR,dB])))|((first|((with_reducible apply wL);exact rfl)|((with_reducible apply wM);exact rfl));all_goals (try ((with_reducible intro h);first|(exact absurd h (by decide))|(try simp only [go_sem,simprocAttr,hR,dB] at h))))|omega|((first|(refine ah hX hC hP (fX g hm f x iW hp1) rfl rfl rfl ?_ ?_ ?_ ?_;iterate 3 (focus (simp only [go_sem,simprocAttr,hR,dB];done)))|(refine aA hX hC hP [(10000,16)] (cy outs) rfl rfl rfl ?_ ?_ ?_ ?_ ?_ ?_ ?_ ?_ ?_ ?_ ?_ ?_ ?_ ?_;(focus (simp only [go_sem,simprocAttr,hR,dB];done));(iterate 12 (focus (simp [go_sem,simprocAttr,hR,dB];done)));simp only [go_sem,simprocAttr,hR,dB,List.map_cons,List.map_nil])|(refine aE hX hC hP [(10000,16)] (bV outs ho) rfl rfl rfl ?_ ?_ ?_ ?_ ?_ ?_ rfl rfl ?_ ?_;(focus (simp only [go_sem,simprocAttr,hR,dB];done));(iterate 6 (focus (simp [go_sem,simprocAttr,hR,dB];done)));simp only [go_sem,simprocAttr,hR,dB,List.map_cons,List.map_nil])|refine aa hX hC hP (iq g hm x) rfl rfl rfl (by simp only [go_sem,simprocAttr,hR,dB]) rfl ?_|refine aa hX hC hP (fm (gM outs) (bp (·.1) g x) hs) rfl rfl rfl (by simp only [go_sem,simprocAttr,hR,dB]) rfl ?_|(refine ah hX hC hP (dX [vw g,sI f.pl] f.row x iW) rfl rfl rfl ?_ ?_ ?_ ?_;iterate 3 (focus (simp only [go_sem,simprocAttr,hR,dB];done))));try simp only [go_sem,simprocAttr,hR,dB])|(intro h))
 |true=>
 have FL:¬dU g f x=false:=by rw [hR];simp
 by_cases hE:¬gM outs=bp (·.1) g x
 ·have ak:decide (gM outs=bp (·.1) g x)=false:=decide_eq_false hE
  have hP:iZ g f x outs=(([],1),f):=by unfold iZ;rw [if_neg FL,if_pos hE]
  rw [hP]
  unfold eH jz
  (refine Spec.dO (C:=T.cfg [] []) (rs:= [.t 6, .t 7]) [(10002,10001)] (T.ai _ _) Tryz.func83 rfl rfl Tryz.ntmps83 Tryz.results83 (by simp [AObj.isNest]) (by simp [AObj.isNest]) (by first|(simp [look];done)|(simp [asN];done)|(intro l hl;simp only [asN];repeat (rw [if_neg (fun e=>by subst e;simp [look] at hl)]))) (by first|(simp [look];done)|(simp [asN];done)|(intro l hl;simp only [asN];repeat (rw [if_neg (fun e=>by subst e;simp [look] at hl)]))) (by kernel_rfl) ?_;intro X hX hP hC aH aI vals hA;refine ⟨_,by simp,hA, ?_⟩;have af:X.P.follows .mixedOrders=true:=(by rw [hP];exact T.mixed);clear aH aI)
  repeat' (first|((first|((with_reducible (first|apply oA|apply oB));exact rfl;intro K hK)|(refine hK _ ?_;clear hK K)|((with_reducible (first|apply oG|apply oH));iterate 3 exact rfl)|((with_reducible apply oI);(iterate 2 exact rfl);intro K hK)|(with_reducible (first|apply wI|apply wJ|apply wK)));try simp only [go_sem,simprocAttr,hR,ak,dB])|(with_reducible (first|apply oC|apply oJ|exact oK|apply wA|apply wB|apply wC hX hC|apply wD hX hC|apply wE hX hC af|apply wF hX hC af|apply wG|apply wH|apply And.intro))|((with_reducible refine oD ?_ ?_);kernel_rfl)|((with_reducible (first|apply oE|apply oF));(iterate 3 exact rfl);all_goals (intro h;first|(exact absurd h (by decide))|((try simp only [go_sem,simprocAttr,hR,ak,dB] at h);(try with_reducible intro K hK);simp only [go_sem,simprocAttr,hR,ak,dB])))|((first|((with_reducible apply wL);exact rfl)|((with_reducible apply wM);exact rfl));all_goals (try ((with_reducible intro h);first|(exact absurd h (by decide))|(try simp only [go_sem,simprocAttr,hR,ak,dB] at h))))|omega|((first|(refine ah hX hC hP (fX g hm f x iW hp1) rfl rfl rfl ?_ ?_ ?_ ?_;iterate 3 (focus (simp only [go_sem,simprocAttr,hR,ak,dB];done)))|(refine aA hX hC hP [(10000,16)] (cy outs) rfl rfl rfl ?_ ?_ ?_ ?_ ?_ ?_ ?_ ?_ ?_ ?_ ?_ ?_ ?_ ?_;(focus (simp only [go_sem,simprocAttr,hR,ak,dB];done));(iterate 12 (focus (simp [go_sem,simprocAttr,hR,ak,dB];done)));simp only [go_sem,simprocAttr,hR,ak,dB,List.map_cons,List.map_nil])|(refine aE hX hC hP [(10000,16)] (bV outs ho) rfl rfl rfl ?_ ?_ ?_ ?_ ?_ ?_ rfl rfl ?_ ?_;(focus (simp only [go_sem,simprocAttr,hR,ak,dB];done));(iterate 6 (focus (simp [go_sem,simprocAttr,hR,ak,dB];done)));simp only [go_sem,simprocAttr,hR,ak,dB,List.map_cons,List.map_nil])|refine aa hX hC hP (iq g hm x) rfl rfl rfl (by simp only [go_sem,simprocAttr,hR,ak,dB]) rfl ?_|refine aa hX hC hP (fm (gM outs) (bp (·.1) g x) hs) rfl rfl rfl (by simp only [go_sem,simprocAttr,hR,ak,dB]) rfl ?_|(refine ah hX hC hP (dX [vw g,sI f.pl] f.row x iW) rfl rfl rfl ?_ ?_ ?_ ?_;iterate 3 (focus (simp only [go_sem,simprocAttr,hR,ak,dB];done))));try simp only [go_sem,simprocAttr,hR,ak,dB])|(intro h))
 rw [Decidable.not_not] at hE
 have ak:decide (gM outs=bp (·.1) g x)=true:=decide_eq_true hE
 have hP:iZ g f x outs=(((f.row.take (aV f.row x).2.1.toNat).drop (max (aV f.row x).1 0).toNat,0),⟨f.row.take (max (aV f.row x).1 0).toNat++aM g x outs++f.row.drop (aV f.row x).2.1.toNat,f.pl++ [x]⟩):=by
  unfold iZ;rw [if_neg FL,if_neg (by rw [hE];simp)]
 rw [hP]
 obtain ⟨a,b,ha,hb,hab,qg⟩:=tw f.row x
 rw [ha,hb]
 simp only [Int.toNat_natCast]
 have pO:outs.length≤128:=by
  have h1:=congrArg List.length hE
  rw [eP] at h1
  have h2:=yg (f:=(·.1)) (g:=g) (x:=x)
  omega
 have D3:∀i∈outs,0≤i∧i<g.es.length:=fun i hi=>(yj (f:=(·.1)) (g:=g) (x:=x) (by rw [← hE];exact wT.2 hi)).1
 obtain ⟨h0,h1⟩:=j5 (g:=g) (x:=x) (outs:=outs)
 have HH:(aM g x outs).length≤100000:=by omega
 have sq:f.row.length≤400000:=by omega
 have JJ:outs.length≤1000000:=by omega
 unfold eH jz
 (refine Spec.dO (C:=T.cfg [] []) (rs:= [.t 6, .t 7]) [(10002,42)] (T.ai _ _) Tryz.func83 rfl rfl Tryz.ntmps83 Tryz.results83 (by simp [AObj.isNest]) (by simp [AObj.isNest]) (by first|(simp [look];done)|(simp [asN];done)|(intro l hl;simp only [asN];repeat (rw [if_neg (fun e=>by subst e;simp [look] at hl)]))) (by first|(simp [look];done)|(simp [asN];done)|(intro l hl;simp only [asN];repeat (rw [if_neg (fun e=>by subst e;simp [look] at hl)]))) (by kernel_rfl) ?_;intro X hX hP hC aH aI vals hA;refine ⟨_,by simp,hA, ?_⟩;have af:X.P.follows .mixedOrders=true:=(by rw [hP];exact T.mixed);clear aH aI)
 repeat' (first|((first|((with_reducible (first|apply oA|apply oB));exact rfl;intro K hK)|(refine hK _ ?_;clear hK K)|((with_reducible (first|apply oG|apply oH));iterate 3 exact rfl)|((with_reducible apply oI);(iterate 2 exact rfl);intro K hK)|(with_reducible (first|apply wI|apply wJ|apply wK)));try simp only [go_sem,simprocAttr,hR,ak,ha,hb,dB,List.length_map,List.map_append,List.map_cons,List.map_nil,rI,eH,List.cons_append,List.nil_append,List.map_take,List.map_drop])|(with_reducible (first|apply oC|apply oJ|exact oK|apply wA|apply wB|apply wC hX hC|apply wD hX hC|apply wE hX hC af|apply wF hX hC af|apply wG|apply wH|apply And.intro))|((with_reducible refine oD ?_ ?_);kernel_rfl)|((with_reducible (first|apply oE|apply oF));(iterate 3 exact rfl);all_goals (intro h;first|(exact absurd h (by decide))|((try simp only [go_sem,simprocAttr,hR,ak,ha,hb,dB,List.length_map,List.map_append,List.map_cons,List.map_nil,rI,eH,List.cons_append,List.nil_append,List.map_take,List.map_drop] at h);(try with_reducible intro K hK);simp only [go_sem,simprocAttr,hR,ak,ha,hb,dB,List.length_map,List.map_append,List.map_cons,List.map_nil,rI,eH,List.cons_append,List.nil_append,List.map_take,List.map_drop])))|((first|((with_reducible apply wL);exact rfl)|((with_reducible apply wM);exact rfl));all_goals (try ((with_reducible intro h);first|(exact absurd h (by decide))|(try simp only [go_sem,simprocAttr,hR,ak,ha,hb,dB,List.length_map,List.map_append,List.map_cons,List.map_nil,rI,eH,List.cons_append,List.nil_append,List.map_take,List.map_drop] at h))))|omega|((first|(refine ah hX hC hP (fX g hm f x iW hp1) rfl rfl rfl ?_ ?_ ?_ ?_;iterate 3 (focus (simp only [go_sem,simprocAttr,hR,ak,ha,hb,dB,List.length_map,List.map_append,List.map_cons,List.map_nil,rI,eH,List.cons_append,List.nil_append,List.map_take,List.map_drop];done)))|(refine aA hX hC hP [(10000,16)] (cy outs) rfl rfl rfl ?_ ?_ ?_ ?_ ?_ ?_ ?_ ?_ ?_ ?_ ?_ ?_ ?_ ?_;(focus (simp only [go_sem,simprocAttr,hR,ak,ha,hb,dB,List.length_map,List.map_append,List.map_cons,List.map_nil,rI,eH,List.cons_append,List.nil_append,List.map_take,List.map_drop];done));(iterate 12 (focus (simp [go_sem,simprocAttr,hR,ak,ha,hb,dB,List.length_map,List.map_append,List.map_cons,List.map_nil,rI,eH,List.cons_append,List.nil_append,List.map_take,List.map_drop];done)));simp only [go_sem,simprocAttr,hR,ak,ha,hb,dB,List.length_map,List.map_append,List.map_cons,List.map_nil,rI,eH,List.cons_append,List.nil_append,List.map_take,List.map_drop,List.map_cons,List.map_nil])|(refine aE hX hC hP [(10000,16)] (bV outs ho) rfl rfl rfl ?_ ?_ ?_ ?_ ?_ ?_ rfl rfl ?_ ?_;(focus (simp only [go_sem,simprocAttr,hR,ak,ha,hb,dB,List.length_map,List.map_append,List.map_cons,List.map_nil,rI,eH,List.cons_append,List.nil_append,List.map_take,List.map_drop];done));(iterate 6 (focus (simp [go_sem,simprocAttr,hR,ak,ha,hb,dB,List.length_map,List.map_append,List.map_cons,List.map_nil,rI,eH,List.cons_append,List.nil_append,List.map_take,List.map_drop];done)));simp only [go_sem,simprocAttr,hR,ak,ha,hb,dB,List.length_map,List.map_append,List.map_cons,List.map_nil,rI,eH,List.cons_append,List.nil_append,List.map_take,List.map_drop,List.map_cons,List.map_nil])|refine aa hX hC hP (iq g hm x) rfl rfl rfl (by simp only [go_sem,simprocAttr,hR,ak,ha,hb,dB,List.length_map,List.map_append,List.map_cons,List.map_nil,rI,eH,List.cons_append,List.nil_append,List.map_take,List.map_drop]) rfl ?_|refine aa hX hC hP (fm (gM outs) (bp (·.1) g x) hs) rfl rfl rfl (by simp only [go_sem,simprocAttr,hR,ak,ha,hb,dB,List.length_map,List.map_append,List.map_cons,List.map_nil,rI,eH,List.cons_append,List.nil_append,List.map_take,List.map_drop]) rfl ?_|(refine ah hX hC hP (dX [vw g,sI f.pl] f.row x iW) rfl rfl rfl ?_ ?_ ?_ ?_;iterate 3 (focus (simp only [go_sem,simprocAttr,hR,ak,ha,hb,dB,List.length_map,List.map_append,List.map_cons,List.map_nil,rI,eH,List.cons_append,List.nil_append,List.map_take,List.map_drop];done)))|(refine kJ hX hC hP 54 (yh g ⟨f.row,f.pl++ [x]⟩ x outs JJ D3) rfl rfl rfl ?_ ?_ (by first|exact ⟨_,_,_,rfl,tu⟩|exact ⟨_,_,_,rfl,tv⟩|exact ⟨_,_,_,rfl,tA⟩) rfl (by decide) ?_;(iterate 2 (focus (simp only [go_sem,simprocAttr,hR,ak,ha,hb,dB,List.length_map,List.map_append,List.map_cons,List.map_nil,rI,eH,List.cons_append,List.nil_append,List.map_take,List.map_drop];done)));simp only [go_sem,simprocAttr,hR,ak,ha,hb,dB,List.length_map,List.map_append,List.map_cons,List.map_nil,rI,eH,List.cons_append,List.nil_append,List.map_take,List.map_drop])|(refine aA hX hC hP [(10001,42),(10003,54)] (AB g f.row (aM g x outs) (f.pl++ [x]) a b hab qg h0 sq HH) rfl rfl rfl ?_ ?_ ?_ ?_ ?_ ?_ ?_ ?_ ?_ ?_ ?_ ?_ ?_ ?_;(focus (simp only [go_sem,simprocAttr,hR,ak,ha,hb,dB,List.length_map,List.map_append,List.map_cons,List.map_nil,rI,eH,List.cons_append,List.nil_append,List.map_take,List.map_drop];done));(iterate 12 (focus (simp [go_sem,simprocAttr,hR,ak,ha,hb,dB,List.length_map,List.map_append,List.map_cons,List.map_nil,rI,eH,List.cons_append,List.nil_append,List.map_take,List.map_drop];done)));simp only [go_sem,simprocAttr,hR,ak,ha,hb,dB,List.length_map,List.map_append,List.map_cons,List.map_nil,rI,eH,List.cons_append,List.nil_append,List.map_take,List.map_drop,List.map_cons,List.map_nil]));try simp only [go_sem,simprocAttr,hR,ak,ha,hb,dB,List.length_map,List.map_append,List.map_cons,List.map_nil,rI,eH,List.cons_append,List.nil_append,List.map_take,List.map_drop])|(intro h))
end Go.Ab
end
section
namespace Go.Ab
open Go.Proofs
attribute [local congr] ACall.congr
set_option maxRecDepth 10000
set_option maxHeartbeats 4000000
def ja (g:Gr) (f:Fr) (k:Nat):List Int:=((List.range k).filter fun x:Nat=>dU g f (x:Int)).map Int.ofNat
def cU (g:Gr) (f:Fr):List Int:=ja g f g.n.toNat
theorem wU {g:Gr} {f:Fr} {k:Nat} :ja g f (k+1)=ja g f k++if dU g f (k:Int)=true then [(k:Int)] else []:=by
 simp only [ja,List.range_succ,List.filter_append,List.map_append,List.filter_cons,List.filter_nil]
 split<;>simp_all
theorem rz {g:Gr} {f:Fr} {k:Nat} :(ja g f k).length≤k:=by
 simpa [ja] using List.length_filter_le (fun x:Nat=>dU g f (x:Int)) (List.range k)
theorem wV (g:Gr) (hm:aL g=true) (f:Fr) (hr:f.row.length≤1000000) (hp:f.pl.length≤1000000):Spec Tryz.prog 113 (Args [.d (dB g f)]) [] (.ref 10000) [(10000, .tip 3 1 ((cU g f).map rI))]:=by
 have hn:=aR hm
 unfold dB
 (refine Spec.dO (C:=T.cfg [] []) (rs:= [.t 2]) [(10000,21)] (T.ai _ _) Tryz.func113 rfl rfl Tryz.ntmps113 Tryz.results113 (by simp [AObj.isNest]) (by simp [AObj.isNest]) (by first|(simp [look];done)|(simp [asN];done)|(intro l hl;simp only [asN];repeat (rw [if_neg (fun e=>by subst e;simp [look] at hl)]))) (by first|(simp [look];done)|(simp [asN];done)|(intro l hl;simp only [asN];repeat (rw [if_neg (fun e=>by subst e;simp [look] at hl)]))) (by kernel_rfl) ?_;intro X hX hP hC aH aI vals hA;refine ⟨_,by simp,hA, ?_⟩;have af:X.P.follows .mixedOrders=true:=(by rw [hP];exact T.mixed);clear aH aI)
 repeat' (first|((first|((with_reducible (first|apply oA|apply oB));exact rfl;intro K hK)|(refine hK _ ?_;clear hK K)|((with_reducible (first|apply oG|apply oH));iterate 3 exact rfl)|((with_reducible apply oI);(iterate 2 exact rfl);intro K hK)|(with_reducible (first|apply wI|apply wJ|apply wK)));try simp only [go_sem,simprocAttr,ag])|(with_reducible (first|apply oC|apply oJ|exact oK|apply wA|apply wB|apply wC hX hC|apply wD hX hC|apply wE hX hC af|apply wF hX hC af|apply wG|apply wH|apply And.intro))|((with_reducible refine oD ?_ ?_);kernel_rfl)|((with_reducible (first|apply oE|apply oF));(iterate 3 exact rfl);all_goals (intro h;first|(exact absurd h (by decide))|((try simp only [go_sem,simprocAttr,ag] at h);(try with_reducible intro K hK);simp only [go_sem,simprocAttr,ag])))|((first|((with_reducible apply wL);exact rfl)|((with_reducible apply wM);exact rfl));all_goals (try ((with_reducible intro h);first|(exact absurd h (by decide))|(try simp only [go_sem,simprocAttr,ag] at h))))|omega|((first|refine aa hX hC hP (fX g hm f (k:Int) hr hp) rfl rfl rfl (by simp only [go_sem,simprocAttr,ag]) rfl ?_);try simp only [go_sem,simprocAttr,ag])|(intro h))
 (refine gm hX 2 21 (.tip 3 1 []) (by simp only [go_sem,simprocAttr,ag]) (by simp only [go_sem,simprocAttr,ag]) (by decide) ⟨3,1,by decide, .inr rfl⟩ ?_;simp only [go_sem,simprocAttr,ag])
 refine aj (fun k:Nat=>k≤g.n.toNat) (fun k=>⟨[(0, .d (dB g f)),(11,eN g.n),(12,eN k),(2, .ref 21)], [(21, .tip 3 1 ((ja g f k).map rI))]⟩) (fun k=>g.n.toNat - k) 0 (by omega) ?_ ?_
 ·refine Le.of ?_ ?_<;>simp [go_sem,simprocAttr,ag,dB,ja]
 rintro k hk
 rcases Nat.lt_or_ge k g.n.toNat with hlt|hge
 ·have hb:decide ((k:Int)<g.n)=true:=decide_eq_true (by omega)
  have c7:=wU (g:=g) (f:=f) (k:=k)
  have hlk:=rz (g:=g) (f:=f) (k:=k)
  repeat' (first|((first|((with_reducible (first|apply oA|apply oB));exact rfl;intro K hK)|(refine hK _ ?_;clear hK K)|((with_reducible (first|apply oG|apply oH));iterate 3 exact rfl)|((with_reducible apply oI);(iterate 2 exact rfl);intro K hK)|(with_reducible (first|apply wI|apply wJ|apply wK)));try simp only [go_sem,simprocAttr,hb])|(with_reducible (first|apply oC|apply oJ|exact oK|apply wA|apply wB|apply wC hX hC|apply wD hX hC|apply wE hX hC af|apply wF hX hC af|apply wG|apply wH|apply And.intro))|((with_reducible refine oD ?_ ?_);kernel_rfl)|((with_reducible (first|apply oE|apply oF));(iterate 3 exact rfl);all_goals (intro h;first|(exact absurd h (by decide))|((try simp only [go_sem,simprocAttr,hb] at h);(try with_reducible intro K hK);simp only [go_sem,simprocAttr,hb])))|((first|((with_reducible apply wL);exact rfl)|((with_reducible apply wM);exact rfl));all_goals (try ((with_reducible intro h);first|(exact absurd h (by decide))|(try simp only [go_sem,simprocAttr,hb] at h))))|omega|((first|refine aa hX hC hP (fX g hm f (k:Int) hr hp) rfl rfl rfl (by simp only [go_sem,simprocAttr,hb]) rfl ?_);try simp only [go_sem,simprocAttr,hb])|(intro h))
  ·rw [if_pos (by assumption)] at c7
   refine ⟨k+1,by omega, ?_,by omega⟩
   refine Le.of ?_ ?_<;>simp [go_sem,simprocAttr,hb,c7,rI]
  ·rw [if_neg (by simp [*]),List.append_nil] at c7
   refine ⟨k+1,by omega, ?_,by omega⟩
   refine Le.of ?_ ?_<;>simp [go_sem,simprocAttr,hb,c7,rI]
 ·have hb:decide ((k:Int)<g.n)=false:=decide_eq_false (by omega)
  obtain rfl:k=g.n.toNat:=by omega
  repeat' (first|((first|((with_reducible (first|apply oA|apply oB));exact rfl;intro K hK)|(refine hK _ ?_;clear hK K)|((with_reducible (first|apply oG|apply oH));iterate 3 exact rfl)|((with_reducible apply oI);(iterate 2 exact rfl);intro K hK)|(with_reducible (first|apply wI|apply wJ|apply wK)));try simp only [go_sem,simprocAttr,hb,cU])|(with_reducible (first|apply oC|apply oJ|exact oK|apply wA|apply wB|apply wC hX hC|apply wD hX hC|apply wE hX hC af|apply wF hX hC af|apply wG|apply wH|apply And.intro))|((with_reducible refine oD ?_ ?_);kernel_rfl)|((with_reducible (first|apply oE|apply oF));(iterate 3 exact rfl);all_goals (intro h;first|(exact absurd h (by decide))|((try simp only [go_sem,simprocAttr,hb,cU] at h);(try with_reducible intro K hK);simp only [go_sem,simprocAttr,hb,cU])))|((first|((with_reducible apply wL);exact rfl)|((with_reducible apply wM);exact rfl));all_goals (try ((with_reducible intro h);first|(exact absurd h (by decide))|(try simp only [go_sem,simprocAttr,hb,cU] at h))))|omega|((first|refine aa hX hC hP (fX g hm f (k:Int) hr hp) rfl rfl rfl (by simp only [go_sem,simprocAttr,hb,cU]) rfl ?_);try simp only [go_sem,simprocAttr,hb,cU])|(intro h))
theorem oq (g:Gr) (hl:g.es.length≤1000) (h0:(cA g).1=0) (hm:aL g=true):Spec Tryz.prog 81 (Args [eG g]) [] (.tup [.ptr 10000 0,eN 0]) [(10000, .box [.nil 100, .d (vw g), .nil 3])]:=by
 (refine Spec.dO (C:=T.cfg [] []) (rs:= [.t 2, .t 3]) [(10000,11)] (T.ai _ _) Tryz.func81 rfl rfl Tryz.ntmps81 Tryz.results81 (by simp [AObj.isNest]) (by simp [AObj.isNest]) (by first|(simp [look];done)|(simp [asN];done)|(intro l hl;simp only [asN];repeat (rw [if_neg (fun e=>by subst e;simp [look] at hl)]))) (by first|(simp [look];done)|(simp [asN];done)|(intro l hl;simp only [asN];repeat (rw [if_neg (fun e=>by subst e;simp [look] at hl)]))) (by kernel_rfl) ?_;intro X hX hP hC aH aI vals hA;refine ⟨_,by simp,hA, ?_⟩;have af:X.P.follows .mixedOrders=true:=(by rw [hP];exact T.mixed);clear aH aI)
 repeat' (first|((first|((with_reducible (first|apply oA|apply oB));exact rfl;intro K hK)|(refine hK _ ?_;clear hK K)|((with_reducible (first|apply oG|apply oH));iterate 3 exact rfl)|((with_reducible apply oI);(iterate 2 exact rfl);intro K hK)|(with_reducible (first|apply wI|apply wJ|apply wK)));try simp only [go_sem,simprocAttr,h0])|(with_reducible (first|apply oC|apply oJ|exact oK|apply wA|apply wB|apply wC hX hC|apply wD hX hC|apply wE hX hC af|apply wF hX hC af|apply wG|apply wH|apply And.intro))|((with_reducible refine oD ?_ ?_);kernel_rfl)|((with_reducible (first|apply oE|apply oF));(iterate 3 exact rfl);all_goals (intro h;first|(exact absurd h (by decide))|((try simp only [go_sem,simprocAttr,h0] at h);(try with_reducible intro K hK);simp only [go_sem,simprocAttr,h0])))|((first|((with_reducible apply wL);exact rfl)|((with_reducible apply wM);exact rfl));all_goals (try ((with_reducible intro h);first|(exact absurd h (by decide))|(try simp only [go_sem,simprocAttr,h0] at h))))|omega|((first|refine aa hX hC hP (jY g hl) rfl rfl rfl (by simp only [go_sem,simprocAttr,h0]) rfl ?_|refine aa hX hC hP (gS g hm) rfl rfl rfl (by simp only [go_sem,simprocAttr,h0]) rfl ?_);try simp only [go_sem,simprocAttr,h0])|(intro h))
theorem AD (g:Gr) (hl:g.es.length≤1000) (h0:(cA g).1≠0):Spec Tryz.prog 81 (Args [eG g]) [] (.tup [.d (.sc (.pointer none)),eN 1]) []:=by
 have hb:decide ((cA g).1=0)=false:=decide_eq_false h0
 (refine Spec.intro (C:=T.cfg [] []) (rs:= [.t 2, .t 3]) (T.ai _ _) Tryz.func81 rfl rfl Tryz.ntmps81 Tryz.results81 (by simp [AObj.isNest]) (by simp [AObj.isNest]) (by kernel_rfl) ?_;intro X hX hP hC aH aI vals hA;refine ⟨_,by simp,hA, ?_⟩;have af:X.P.follows .mixedOrders=true:=(by rw [hP];exact T.mixed);clear aH aI)
 repeat' (first|((first|((with_reducible (first|apply oA|apply oB));exact rfl;intro K hK)|(refine hK _ ?_;clear hK K)|((with_reducible (first|apply oG|apply oH));iterate 3 exact rfl)|((with_reducible apply oI);(iterate 2 exact rfl);intro K hK)|(with_reducible (first|apply wI|apply wJ|apply wK)));try simp only [go_sem,simprocAttr,hb])|(with_reducible (first|apply oC|apply oJ|exact oK|apply wA|apply wB|apply wC hX hC|apply wD hX hC|apply wE hX hC af|apply wF hX hC af|apply wG|apply wH|apply And.intro))|((with_reducible refine oD ?_ ?_);kernel_rfl)|((with_reducible (first|apply oE|apply oF));(iterate 3 exact rfl);all_goals (intro h;first|(exact absurd h (by decide))|((try simp only [go_sem,simprocAttr,hb] at h);(try with_reducible intro K hK);simp only [go_sem,simprocAttr,hb])))|((first|((with_reducible apply wL);exact rfl)|((with_reducible apply wM);exact rfl));all_goals (try ((with_reducible intro h);first|(exact absurd h (by decide))|(try simp only [go_sem,simprocAttr,hb] at h))))|omega|((first|refine aa hX hC hP (jY g hl) rfl rfl rfl (by simp only [go_sem,simprocAttr,hb]) rfl ?_);try simp only [go_sem,simprocAttr,hb])|(intro h))
end Go.Ab
end
