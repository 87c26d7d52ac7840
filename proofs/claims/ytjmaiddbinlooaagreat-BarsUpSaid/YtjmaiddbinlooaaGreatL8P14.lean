/- A part of the proof. -/
import Derived.Test.YtjmaiddbinlooaaGreatL8P13
set_option linter.unusedSimpArgs false
set_option linter.unusedVariables false
section
namespace Go.Ab
open Go.Proofs
attribute [local congr] ACall.congr
set_option maxRecDepth 10000
set_option maxHeartbeats 4000000
theorem bq (ps:List Int) (x:Int) (hl:ps.length≤9223372036854775807):Spec Tryz.prog 142 (Args [.d (sI ps),eN x]) [] (eB (decide (x∈ps))) []:=by
 (refine Spec.intro (C:=T.cfg [] []) (rs:= [.t 4]) (T.aj _ _) Tryz.func142 rfl rfl Tryz.ntmps142 Tryz.results142 (by simp [AObj.isNest]) (by simp [AObj.isNest]) (by kernel_rfl) ?_;intro X hX hP hC aD aF vals hA;refine ⟨_,by simp,hA, ?_⟩;have af:X.P.follows .mixedOrders=true:=(by rw [hP];exact T.mixed);clear aD aF)
 repeat' (first|((first|((with_reducible (first|apply oA|apply oB));exact rfl;intro K hK)|(refine hK _ ?_;clear hK K)|((with_reducible (first|apply oG|apply oH));iterate 3 exact rfl)|((with_reducible apply oI);(iterate 2 exact rfl);intro K hK)|(with_reducible (first|apply wI|apply wJ|apply wK)));try simp only [go_sem,simprocAttr])|(with_reducible (first|apply oC|apply oJ|exact oK|apply wA|apply wB|apply wC hX hC|apply wD hX hC|apply wE hX hC af|apply wF hX hC af|apply wG|apply wH|apply And.intro))|((with_reducible refine oD ?_ ?_);kernel_rfl)|((with_reducible (first|apply oE|apply oF));(iterate 3 exact rfl);all_goals (intro h;first|(exact absurd h (by decide))|((try simp only [go_sem,simprocAttr] at h);(try with_reducible intro K hK);simp only [go_sem,simprocAttr])))|((first|((with_reducible apply wL);exact rfl)|((with_reducible apply wM);exact rfl));all_goals (try ((with_reducible intro h);first|(exact absurd h (by decide))|(try simp only [go_sem,simprocAttr] at h))))|omega|(intro h))
 refine ah (fun k:Nat=>k≤ps.length∧∀j,j<k→ps.getD j 0≠x) (fun k=>⟨[(0, .d (sI ps)),(1,eN x),(5,eN k)], []⟩) (fun k=>ps.length - k) 0 (by simp) ?_ ?_
 ·(refine ⟨bR ?_,fun _ _ h=>h⟩;simp [go_sem,simprocAttr])
 rintro k ⟨hk,hg⟩
 rcases Nat.lt_or_ge k ps.length with hlt|hge
 ·have hb:decide ((k:Int)<(ps.length:Int))=true:=decide_eq_true (by omega)
  repeat' (first|((first|((with_reducible (first|apply oA|apply oB));exact rfl;intro K hK)|(refine hK _ ?_;clear hK K)|((with_reducible (first|apply oG|apply oH));iterate 3 exact rfl)|((with_reducible apply oI);(iterate 2 exact rfl);intro K hK)|(with_reducible (first|apply wI|apply wJ|apply wK)));try simp only [go_sem,simprocAttr,hb])|(with_reducible (first|apply oC|apply oJ|exact oK|apply wA|apply wB|apply wC hX hC|apply wD hX hC|apply wE hX hC af|apply wF hX hC af|apply wG|apply wH|apply And.intro))|((with_reducible refine oD ?_ ?_);kernel_rfl)|((with_reducible (first|apply oE|apply oF));(iterate 3 exact rfl);all_goals (intro h;first|(exact absurd h (by decide))|((try simp only [go_sem,simprocAttr,hb] at h);(try with_reducible intro K hK);simp only [go_sem,simprocAttr,hb])))|((first|((with_reducible apply wL);exact rfl)|((with_reducible apply wM);exact rfl));all_goals (try ((with_reducible intro h);first|(exact absurd h (by decide))|(try simp only [go_sem,simprocAttr,hb] at h))))|omega|(intro h))
  ·have hm:=aS (d:=0) hlt
   rw [h] at hm
   exact (decide_eq_true hm).symm
  ·refine ⟨k+1,⟨by omega,fun j hj=> ?_⟩, ?_,by omega⟩
   ·by_cases hjk:j=k
    ·subst hjk;assumption
    ·exact hg j (by omega)
   ·(refine ⟨bR ?_,fun _ _ h=>h⟩;simp [go_sem,simprocAttr,hb])
 ·have hb:decide ((k:Int)<(ps.length:Int))=false:=decide_eq_false (by omega)
  repeat' (first|((first|((with_reducible (first|apply oA|apply oB));exact rfl;intro K hK)|(refine hK _ ?_;clear hK K)|((with_reducible (first|apply oG|apply oH));iterate 3 exact rfl)|((with_reducible apply oI);(iterate 2 exact rfl);intro K hK)|(with_reducible (first|apply wI|apply wJ|apply wK)));try simp only [go_sem,simprocAttr,hb])|(with_reducible (first|apply oC|apply oJ|exact oK|apply wA|apply wB|apply wC hX hC|apply wD hX hC|apply wE hX hC af|apply wF hX hC af|apply wG|apply wH|apply And.intro))|((with_reducible refine oD ?_ ?_);kernel_rfl)|((with_reducible (first|apply oE|apply oF));(iterate 3 exact rfl);all_goals (intro h;first|(exact absurd h (by decide))|((try simp only [go_sem,simprocAttr,hb] at h);(try with_reducible intro K hK);simp only [go_sem,simprocAttr,hb])))|((first|((with_reducible apply wL);exact rfl)|((with_reducible apply wM);exact rfl));all_goals (try ((with_reducible intro h);first|(exact absurd h (by decide))|(try simp only [go_sem,simprocAttr,hb] at h))))|omega|(intro h))
  refine (decide_eq_false fun hm=> ?_).symm
  obtain ⟨j,hj,hx⟩:=List.mem_iff_getElem.1 hm
  exact hg j (by omega) (by rw [List.getD_eq_getElem?_getD,List.getElem?_eq_getElem hj];exact hx)
def fu (g:Gr) (f:Fr):List AV:= [eN g.n, .d (sE g.es), .d (sT f.row), .d (sI f.pl)]
def fQ (row:List It) (x:Int):Nat→Int
 |0=>0
 |k+1=>if (row.getD k (0,0,0)).2.2=x then fQ row x k+1 else fQ row x k
theorem eL {row:List It} {x:Int} {k:Nat} :fQ row x (k+1)=if (row.getD k (0,0,0)).2.2=x then fQ row x k+1 else fQ row x k:=rfl
theorem AF {row:List It} {x:Int} :∀k:Nat,0≤fQ row x k∧fQ row x k≤k
 |0=>by simp [fQ]
 |k+1=>by
  have:=AF (row:=row) (x:=x) k
  rw [eL]
  split<;>omega
def tv (row:List It) (x:Int) (need:Nat) (j:Nat):Bool:=decide ((row.getD j (0,0,0)).2.2≠x)&&decide (0≤(row.getD j (0,0,0)).1)&&decide (0<fQ row x j)&&decide (fQ row x j<need)
theorem mK {row:List It} {x:Int} {need j:Nat} :tv row x need j=true↔((row.getD j (0,0,0)).2.2≠x∧0≤(row.getD j (0,0,0)).1)∧0<fQ row x j∧fQ row x j<need:=by
 simp only [tv,Bool.and_eq_true,decide_eq_true_eq,and_assoc]
def bA (g:Gr) (x:Int):Nat:=(aG (·.2) g.es g.es.length x).length
def aC (g:Gr) (f:Fr) (x:Int):Bool:=
 if x<0∨g.n≤x∨x∈f.pl then false else if bA g x=0 then true else
 !(List.range f.row.length).any (tv f.row x (bA g x))&&decide (fQ f.row x f.row.length=bA g x)
theorem iW:lg false=(fun e:Edge=>e.2):=rfl
theorem eY:lg true=(fun e:Edge=>e.1):=rfl
theorem Ge {n j:Nat} {p:Nat→Bool} (h:j<n) (hp:p j=true):(List.range n).any p=true:=List.any_eq_true.2 ⟨j,List.mem_range.2 h,hp⟩
theorem Gf {n:Nat} {p:Nat→Bool} (h:∀j,j<n→p j=false):(List.range n).any p=false:=by
 rw [List.any_eq_false]
 intro j hj
 rw [h j (List.mem_range.1 hj)];simp
theorem bC (g:Gr) (hl:g.es.length≤1000) (f:Fr) (x:Int) (hr:f.row.length≤1000000) (eR:f.pl.length≤1000000):Spec Tryz.prog 141 (Args [.ptr 10000 0,eN x]) [(10000, .rob (fu g f))] (eB (aC g f x)) [(10000, .rob (fu g f))]:=by
 have hp:f.pl.length≤9223372036854775807:=by omega
 unfold fu
 by_cases hx:x<0∨g.n≤x∨x∈f.pl
 ·have hR:aC g f x=false:=if_pos hx
  (refine Spec.intro (C:=T.cfg [] []) (rs:= [.t 4]) (T.aj _ _) Tryz.func141 rfl rfl Tryz.ntmps141 Tryz.results141 (by simp [AObj.isNest]) (by simp [AObj.isNest]) (by kernel_rfl) ?_;intro X hX hP hC aD aF vals hA;refine ⟨_,by simp,hA, ?_⟩;have af:X.P.follows .mixedOrders=true:=(by rw [hP];exact T.mixed);clear aD aF)
  by_cases h1:x<0
  ·have an:decide (x<0)=true:=decide_eq_true h1
   repeat' (first|((first|((with_reducible (first|apply oA|apply oB));exact rfl;intro K hK)|(refine hK _ ?_;clear hK K)|((with_reducible (first|apply oG|apply oH));iterate 3 exact rfl)|((with_reducible apply oI);(iterate 2 exact rfl);intro K hK)|(with_reducible (first|apply wI|apply wJ|apply wK)));try simp only [go_sem,simprocAttr,hR,an])|(with_reducible (first|apply oC|apply oJ|exact oK|apply wA|apply wB|apply wC hX hC|apply wD hX hC|apply wE hX hC af|apply wF hX hC af|apply wG|apply wH|apply And.intro))|((with_reducible refine oD ?_ ?_);kernel_rfl)|((with_reducible (first|apply oE|apply oF));(iterate 3 exact rfl);all_goals (intro h;first|(exact absurd h (by decide))|((try simp only [go_sem,simprocAttr,hR,an] at h);(try with_reducible intro K hK);simp only [go_sem,simprocAttr,hR,an])))|((first|((with_reducible apply wL);exact rfl)|((with_reducible apply wM);exact rfl));all_goals (try ((with_reducible intro h);first|(exact absurd h (by decide))|(try simp only [go_sem,simprocAttr,hR,an] at h))))|omega|((first|refine aa hX hC hP (bq f.pl x hp) rfl rfl rfl (by simp only [go_sem,simprocAttr,hR,an]) rfl ?_|refine aa hX hC hP (bg g x false hl) rfl rfl rfl (by simp only [go_sem,simprocAttr,hR,an]) rfl ?_);try simp only [go_sem,simprocAttr,hR,an])|(intro h))
  have an:decide (x<0)=false:=decide_eq_false h1
  by_cases h2:g.n≤x
  ·have ak:decide (g.n≤x)=true:=decide_eq_true h2
   repeat' (first|((first|((with_reducible (first|apply oA|apply oB));exact rfl;intro K hK)|(refine hK _ ?_;clear hK K)|((with_reducible (first|apply oG|apply oH));iterate 3 exact rfl)|((with_reducible apply oI);(iterate 2 exact rfl);intro K hK)|(with_reducible (first|apply wI|apply wJ|apply wK)));try simp only [go_sem,simprocAttr,hR,an,ak])|(with_reducible (first|apply oC|apply oJ|exact oK|apply wA|apply wB|apply wC hX hC|apply wD hX hC|apply wE hX hC af|apply wF hX hC af|apply wG|apply wH|apply And.intro))|((with_reducible refine oD ?_ ?_);kernel_rfl)|((with_reducible (first|apply oE|apply oF));(iterate 3 exact rfl);all_goals (intro h;first|(exact absurd h (by decide))|((try simp only [go_sem,simprocAttr,hR,an,ak] at h);(try with_reducible intro K hK);simp only [go_sem,simprocAttr,hR,an,ak])))|((first|((with_reducible apply wL);exact rfl)|((with_reducible apply wM);exact rfl));all_goals (try ((with_reducible intro h);first|(exact absurd h (by decide))|(try simp only [go_sem,simprocAttr,hR,an,ak] at h))))|omega|((first|refine aa hX hC hP (bq f.pl x hp) rfl rfl rfl (by simp only [go_sem,simprocAttr,hR,an,ak]) rfl ?_|refine aa hX hC hP (bg g x false hl) rfl rfl rfl (by simp only [go_sem,simprocAttr,hR,an,ak]) rfl ?_);try simp only [go_sem,simprocAttr,hR,an,ak])|(intro h))
  have ak:decide (g.n≤x)=false:=decide_eq_false h2
  have h3:x∈f.pl:=by rcases hx with h|h|h;exact absurd h h1;exact absurd h h2;exact h
  have bI:decide (x∈f.pl)=true:=decide_eq_true h3
  repeat' (first|((first|((with_reducible (first|apply oA|apply oB));exact rfl;intro K hK)|(refine hK _ ?_;clear hK K)|((with_reducible (first|apply oG|apply oH));iterate 3 exact rfl)|((with_reducible apply oI);(iterate 2 exact rfl);intro K hK)|(with_reducible (first|apply wI|apply wJ|apply wK)));try simp only [go_sem,simprocAttr,hR,an,ak,bI])|(with_reducible (first|apply oC|apply oJ|exact oK|apply wA|apply wB|apply wC hX hC|apply wD hX hC|apply wE hX hC af|apply wF hX hC af|apply wG|apply wH|apply And.intro))|((with_reducible refine oD ?_ ?_);kernel_rfl)|((with_reducible (first|apply oE|apply oF));(iterate 3 exact rfl);all_goals (intro h;first|(exact absurd h (by decide))|((try simp only [go_sem,simprocAttr,hR,an,ak,bI] at h);(try with_reducible intro K hK);simp only [go_sem,simprocAttr,hR,an,ak,bI])))|((first|((with_reducible apply wL);exact rfl)|((with_reducible apply wM);exact rfl));all_goals (try ((with_reducible intro h);first|(exact absurd h (by decide))|(try simp only [go_sem,simprocAttr,hR,an,ak,bI] at h))))|omega|((first|refine aa hX hC hP (bq f.pl x hp) rfl rfl rfl (by simp only [go_sem,simprocAttr,hR,an,ak,bI]) rfl ?_|refine aa hX hC hP (bg g x false hl) rfl rfl rfl (by simp only [go_sem,simprocAttr,hR,an,ak,bI]) rfl ?_);try simp only [go_sem,simprocAttr,hR,an,ak,bI])|(intro h))
 ·have an:decide (x<0)=false:=decide_eq_false fun h=>hx (.inl h)
  have ak:decide (g.n≤x)=false:=decide_eq_false fun h=>hx (.inr (.inl h))
  have bI:decide (x∈f.pl)=false:=decide_eq_false fun h=>hx (.inr (.inr h))
  have hR:aC g f x=if bA g x=0 then true else !(List.range f.row.length).any (tv f.row x (bA g x))&&decide (fQ f.row x f.row.length=bA g x):=if_neg hx
  have b7:(aG (·.2) g.es g.es.length x).length=bA g x:=rfl
  have hnl:bA g x≤1000:=Nat.le_trans eC hl
  generalize bA g x=need at hR b7 hnl
  by_cases h4:need=0
  ·have hb4:decide ((need:Int)=0)=true:=decide_eq_true (by omega)
   rw [if_pos h4] at hR
   (refine Spec.intro (C:=T.cfg [] []) (rs:= [.t 4]) (T.aj _ _) Tryz.func141 rfl rfl Tryz.ntmps141 Tryz.results141 (by simp [AObj.isNest]) (by simp [AObj.isNest]) (by kernel_rfl) ?_;intro X hX hP hC aD aF vals hA;refine ⟨_,by simp,hA, ?_⟩;have af:X.P.follows .mixedOrders=true:=(by rw [hP];exact T.mixed);clear aD aF)
   repeat' (first|((first|((with_reducible (first|apply oA|apply oB));exact rfl;intro K hK)|(refine hK _ ?_;clear hK K)|((with_reducible (first|apply oG|apply oH));iterate 3 exact rfl)|((with_reducible apply oI);(iterate 2 exact rfl);intro K hK)|(with_reducible (first|apply wI|apply wJ|apply wK)));try simp only [go_sem,simprocAttr,hR,an,ak,bI,hb4,iW,b7])|(with_reducible (first|apply oC|apply oJ|exact oK|apply wA|apply wB|apply wC hX hC|apply wD hX hC|apply wE hX hC af|apply wF hX hC af|apply wG|apply wH|apply And.intro))|((with_reducible refine oD ?_ ?_);kernel_rfl)|((with_reducible (first|apply oE|apply oF));(iterate 3 exact rfl);all_goals (intro h;first|(exact absurd h (by decide))|((try simp only [go_sem,simprocAttr,hR,an,ak,bI,hb4,iW,b7] at h);(try with_reducible intro K hK);simp only [go_sem,simprocAttr,hR,an,ak,bI,hb4,iW,b7])))|((first|((with_reducible apply wL);exact rfl)|((with_reducible apply wM);exact rfl));all_goals (try ((with_reducible intro h);first|(exact absurd h (by decide))|(try simp only [go_sem,simprocAttr,hR,an,ak,bI,hb4,iW,b7] at h))))|omega|((first|refine aa hX hC hP (bq f.pl x hp) rfl rfl rfl (by simp only [go_sem,simprocAttr,hR,an,ak,bI,hb4,iW,b7]) rfl ?_|refine aa hX hC hP (bg g x false hl) rfl rfl rfl (by simp only [go_sem,simprocAttr,hR,an,ak,bI,hb4,iW,b7]) rfl ?_);try simp only [go_sem,simprocAttr,hR,an,ak,bI,hb4,iW,b7])|(intro h))
  ·have hb4:decide ((need:Int)=0)=false:=decide_eq_false (by omega)
   rw [if_neg h4] at hR
   generalize aC g f x=res at hR
   (refine Spec.intro (C:=T.cfg [] []) (rs:= [.t 4]) (T.aj _ _) Tryz.func141 rfl rfl Tryz.ntmps141 Tryz.results141 (by simp [AObj.isNest]) (by simp [AObj.isNest]) (by kernel_rfl) ?_;intro X hX hP hC aD aF vals hA;refine ⟨_,by simp,hA, ?_⟩;have af:X.P.follows .mixedOrders=true:=(by rw [hP];exact T.mixed);clear aD aF)
   repeat' (first|((first|((with_reducible (first|apply oA|apply oB));exact rfl;intro K hK)|(refine hK _ ?_;clear hK K)|((with_reducible (first|apply oG|apply oH));iterate 3 exact rfl)|((with_reducible apply oI);(iterate 2 exact rfl);intro K hK)|(with_reducible (first|apply wI|apply wJ|apply wK)));try simp only [go_sem,simprocAttr,an,ak,bI,hb4,iW,b7])|(with_reducible (first|apply oC|apply oJ|exact oK|apply wA|apply wB|apply wC hX hC|apply wD hX hC|apply wE hX hC af|apply wF hX hC af|apply wG|apply wH|apply And.intro))|((with_reducible refine oD ?_ ?_);kernel_rfl)|((with_reducible (first|apply oE|apply oF));(iterate 3 exact rfl);all_goals (intro h;first|(exact absurd h (by decide))|((try simp only [go_sem,simprocAttr,an,ak,bI,hb4,iW,b7] at h);(try with_reducible intro K hK);simp only [go_sem,simprocAttr,an,ak,bI,hb4,iW,b7])))|((first|((with_reducible apply wL);exact rfl)|((with_reducible apply wM);exact rfl));all_goals (try ((with_reducible intro h);first|(exact absurd h (by decide))|(try simp only [go_sem,simprocAttr,an,ak,bI,hb4,iW,b7] at h))))|omega|((first|refine aa hX hC hP (bq f.pl x hp) rfl rfl rfl (by simp only [go_sem,simprocAttr,an,ak,bI,hb4,iW,b7]) rfl ?_|refine aa hX hC hP (bg g x false hl) rfl rfl rfl (by simp only [go_sem,simprocAttr,an,ak,bI,hb4,iW,b7]) rfl ?_);try simp only [go_sem,simprocAttr,an,ak,bI,hb4,iW,b7])|(intro h))
   refine ah (fun k:Nat=>k≤f.row.length∧∀j,j<k→tv f.row x need j=false) (fun k=>⟨[(0, .ptr 10000 0),(1,eN x),(5,eN need),(6,eN (fQ f.row x k)),(7,eN k)], [(10000, .rob [eN g.n, .d (sE g.es), .d (sT f.row), .d (sI f.pl)])]⟩) (fun k=>f.row.length - k) 0 (by simp) ?_ ?_
   ·refine Le.of ?_ ?_<;>simp [go_sem,simprocAttr,an,ak,bI,hb4,iW,b7,fQ]
   rintro k ⟨hk,hg⟩
   rcases Nat.lt_or_ge k f.row.length with hlt|hge
   ·have hb:decide ((k:Int)<(f.row.length:Int))=true:=decide_eq_true (by omega)
    have hmk:=AF (row:=f.row) (x:=x) k
    have dQ:=eL (row:=f.row) (x:=x) (k:=k)
    have step:tv f.row x need k=false→∀j,j<k+1→tv f.row x need j=false:=fun h j hj=>by
     by_cases hjk:j=k
     ·subst hjk;exact h
     ·exact hg j (by omega)
    repeat' (first|((first|((with_reducible (first|apply oA|apply oB));exact rfl;intro K hK)|(refine hK _ ?_;clear hK K)|((with_reducible (first|apply oG|apply oH));iterate 3 exact rfl)|((with_reducible apply oI);(iterate 2 exact rfl);intro K hK)|(with_reducible (first|apply wI|apply wJ|apply wK)));try simp only [go_sem,simprocAttr,hb])|(with_reducible (first|apply oC|apply oJ|exact oK|apply wA|apply wB|apply wC hX hC|apply wD hX hC|apply wE hX hC af|apply wF hX hC af|apply wG|apply wH|apply And.intro))|((with_reducible refine oD ?_ ?_);kernel_rfl)|((with_reducible (first|apply oE|apply oF));(iterate 3 exact rfl);all_goals (intro h;first|(exact absurd h (by decide))|((try simp only [go_sem,simprocAttr,hb] at h);(try with_reducible intro K hK);simp only [go_sem,simprocAttr,hb])))|((first|((with_reducible apply wL);exact rfl)|((with_reducible apply wM);exact rfl));all_goals (try ((with_reducible intro h);first|(exact absurd h (by decide))|(try simp only [go_sem,simprocAttr,hb] at h))))|omega|((first|refine aa hX hC hP (bq f.pl x hp) rfl rfl rfl (by simp only [go_sem,simprocAttr,hb]) rfl ?_|refine aa hX hC hP (bg g x false hl) rfl rfl rfl (by simp only [go_sem,simprocAttr,hb]) rfl ?_);try simp only [go_sem,simprocAttr,hb])|(intro h))
    all_goals (first|(rw [hR,Ge hlt (mK.2 ⟨⟨by assumption,by assumption⟩,by assumption,by assumption⟩)];rfl)|skip)
    all_goals (first|rw [if_neg (by assumption)] at dQ|rw [if_pos (by assumption)] at dQ)
    all_goals (refine ⟨k+1,⟨by omega,step (by rw [← Bool.not_eq_true];intro hh;obtain ⟨⟨_,_⟩,_,_⟩:=mK.1 hh;contradiction)⟩, ?_,by omega⟩;refine Le.of ?_ ?_<;>simp [go_sem,simprocAttr,hb,dQ])
   ·have hb:decide ((k:Int)<(f.row.length:Int))=false:=decide_eq_false (by omega)
    obtain rfl:k=f.row.length:=by omega
    rw [Gf hg] at hR
    repeat' (first|((first|((with_reducible (first|apply oA|apply oB));exact rfl;intro K hK)|(refine hK _ ?_;clear hK K)|((with_reducible (first|apply oG|apply oH));iterate 3 exact rfl)|((with_reducible apply oI);(iterate 2 exact rfl);intro K hK)|(with_reducible (first|apply wI|apply wJ|apply wK)));try simp only [go_sem,simprocAttr,hb,hR])|(with_reducible (first|apply oC|apply oJ|exact oK|apply wA|apply wB|apply wC hX hC|apply wD hX hC|apply wE hX hC af|apply wF hX hC af|apply wG|apply wH|apply And.intro))|((with_reducible refine oD ?_ ?_);kernel_rfl)|((with_reducible (first|apply oE|apply oF));(iterate 3 exact rfl);all_goals (intro h;first|(exact absurd h (by decide))|((try simp only [go_sem,simprocAttr,hb,hR] at h);(try with_reducible intro K hK);simp only [go_sem,simprocAttr,hb,hR])))|((first|((with_reducible apply wL);exact rfl)|((with_reducible apply wM);exact rfl));all_goals (try ((with_reducible intro h);first|(exact absurd h (by decide))|(try simp only [go_sem,simprocAttr,hb,hR] at h))))|omega|((first|refine aa hX hC hP (bq f.pl x hp) rfl rfl rfl (by simp only [go_sem,simprocAttr,hb,hR]) rfl ?_|refine aa hX hC hP (bg g x false hl) rfl rfl rfl (by simp only [go_sem,simprocAttr,hb,hR]) rfl ?_);try simp only [go_sem,simprocAttr,hb,hR])|(intro h))
end Go.Ab
end
section
namespace Go.Ab
open Go.Proofs
attribute [local congr] ACall.congr
set_option maxRecDepth 10000
set_option maxHeartbeats 4000000
end Go.Ab
end
section
namespace Go.Ab
open Go.Proofs
attribute [local congr] ACall.congr
set_option maxRecDepth 10000
set_option maxHeartbeats 8000000
def bn (g:Gr) (x:Int):List Int:=aG (·.1) g.es g.es.length x
def az (g:Gr) (f:Fr) (x:Int) (outs:List Int):(List It × Int) × Fr:=
 (((f.row.take (aZ f.row x).2.1.toNat).drop (max (aZ f.row x).1 0).toNat,0),⟨f.row.take (max (aZ f.row x).1 0).toNat++aO g x outs++f.row.drop (aZ f.row x).2.1.toNat,f.pl++ [x]⟩)
def c7 (g:Gr) (f:Fr) (x:Int) (outs:List Int):(List It × Int) × Fr:=
 if aC g f x=false then (([],3),f) else
 if outs.length≠(bn g x).length∨∃i∈bn g x,i∉outs then (([],1),f) else az g f x outs
theorem bX {f:Edge→Int} {es:List Edge} {k:Nat} {x:Int} :(aG f es k x).Nodup:=by
 unfold aG
 exact List.Pairwise.map _ (fun a b h e=>h (Int.ofNat.inj e)) (List.Pairwise.filter _ List.nodup_range)
theorem wU:∀ {ms os:List Int},ms.Nodup→(∀i∈ms,i∈os)→os.length=ms.length→∀i∈os,i∈ms
 | [],os,_,_,hl,i,hi=>by
   have:os= []:=List.eq_nil_of_length_eq_zero (by simpa using hl)
   rw [this] at hi;exact hi
 |m::ms,os,hn,hs,hl,i,hi=>by
  rw [List.nodup_cons] at hn
  have hm:=hs m (List.mem_cons_self ..)
  by_cases h:i=m
  ·rw [h];exact List.mem_cons_self ..
  ·refine List.mem_cons_of_mem _ (wU hn.2 (os:=os.erase m) (fun j hj=> ?_) ?_ i ?_)
   ·have:j≠m:=fun e=>hn.1 (e ▸ hj)
    exact (List.mem_erase_of_ne this).2 (hs j (List.mem_cons_of_mem _ hj))
   ·rw [List.length_erase_of_mem hm,hl];simp
   ·exact (List.mem_erase_of_ne h).2 hi
theorem tw {g:Gr} {x:Int} :(bn g x).length≤g.es.length:=eC
theorem yw (g:Gr) (hl:g.es.length≤1000) (f:Fr) (x:Int) (outs:List Int) (hr:f.row.length≤300000) (hp:f.pl.length≤100000) (ho:outs.length≤9223372036854775807):
 Spec Tryz.prog 118 (Args [.ptr 10000 0,eN x, .d (sI outs)]) [(10000, .box (fu g f))] (.tup [.d (sT (c7 g f x outs).1.1),eN (c7 g f x outs).1.2]) [(10000, .box (fu g (c7 g f x outs).2))]:=by
 have jb:f.row.length≤1000000:=by omega
 have hp1:f.pl.length≤1000000:=by omega
 have tZ:outs.length≤9223372036854775807:=by omega
 have hml:=tw (g:=g) (x:=x)
 have r9:aG (fun e=>e.1) g.es g.es.length x=bn g x:=rfl
 cases hR:aC g f x with
 |false=>
  have hP:c7 g f x outs=(([],3),f):=if_pos hR
  rw [hP]
  unfold fu
  (refine Spec.intro (C:=T.cfg [] []) (rs:= [.t 6, .t 7]) (T.aj _ _) Tryz.func118 rfl rfl Tryz.ntmps118 Tryz.results118 (by simp [AObj.isNest]) (by simp [AObj.isNest]) (by kernel_rfl) ?_;intro X hX hP hC aD aF vals hA;refine ⟨_,by simp,hA, ?_⟩;have af:X.P.follows .mixedOrders=true:=(by rw [hP];exact T.mixed);clear aD aF)
  repeat' (first|((first|((with_reducible (first|apply oA|apply oB));exact rfl;intro K hK)|(refine hK _ ?_;clear hK K)|((with_reducible (first|apply oG|apply oH));iterate 3 exact rfl)|((with_reducible apply oI);(iterate 2 exact rfl);intro K hK)|(with_reducible (first|apply wI|apply wJ|apply wK)));try simp only [go_sem,simprocAttr,hR,fu])|(with_reducible (first|apply oC|apply oJ|exact oK|apply wA|apply wB|apply wC hX hC|apply wD hX hC|apply wE hX hC af|apply wF hX hC af|apply wG|apply wH|apply And.intro))|((with_reducible refine oD ?_ ?_);kernel_rfl)|((with_reducible (first|apply oE|apply oF));(iterate 3 exact rfl);all_goals (intro h;first|(exact absurd h (by decide))|((try simp only [go_sem,simprocAttr,hR,fu] at h);(try with_reducible intro K hK);simp only [go_sem,simprocAttr,hR,fu])))|((first|((with_reducible apply wL);exact rfl)|((with_reducible apply wM);exact rfl));all_goals (try ((with_reducible intro h);first|(exact absurd h (by decide))|(try simp only [go_sem,simprocAttr,hR,fu] at h))))|omega|((first|(refine aV hX hC hP [(10000,10000)] (bC g hl f x jb hp1) rfl rfl rfl ?_ ?_ ?_ ?_ ?_ ?_ rfl rfl ?_ ?_;(focus (simp only [go_sem,simprocAttr,hR,fu];done));(iterate 6 (focus (simp [go_sem,simprocAttr,hR,fu];done)));simp only [go_sem,simprocAttr,hR,fu,List.map_cons,List.map_nil])|refine aa hX hC hP (bg g x true hl) rfl rfl rfl (by simp only [go_sem,simprocAttr,hR,fu]) rfl ?_|refine aa hX hC hP (bq outs ((bn g x).getD k 0) tZ) rfl rfl rfl (by simp only [go_sem,simprocAttr,hR,fu]) rfl ?_);try simp only [go_sem,simprocAttr,hR,fu])|(intro h))
 |true=>
 have H8:¬aC g f x=false:=by rw [hR];simp
 by_cases hlen:outs.length≠(bn g x).length
 ·have hP:c7 g f x outs=(([],1),f):=by unfold c7;rw [if_neg H8,if_pos (.inl hlen)]
  have an:decide ((outs.length:Int)=((bn g x).length:Int))=false:=decide_eq_false (by omega)
  rw [hP]
  unfold fu
  (refine Spec.intro (C:=T.cfg [] []) (rs:= [.t 6, .t 7]) (T.aj _ _) Tryz.func118 rfl rfl Tryz.ntmps118 Tryz.results118 (by simp [AObj.isNest]) (by simp [AObj.isNest]) (by kernel_rfl) ?_;intro X hX hP hC aD aF vals hA;refine ⟨_,by simp,hA, ?_⟩;have af:X.P.follows .mixedOrders=true:=(by rw [hP];exact T.mixed);clear aD aF)
  repeat' (first|((first|((with_reducible (first|apply oA|apply oB));exact rfl;intro K hK)|(refine hK _ ?_;clear hK K)|((with_reducible (first|apply oG|apply oH));iterate 3 exact rfl)|((with_reducible apply oI);(iterate 2 exact rfl);intro K hK)|(with_reducible (first|apply wI|apply wJ|apply wK)));try simp only [go_sem,simprocAttr,hR,fu,eY,r9,an])|(with_reducible (first|apply oC|apply oJ|exact oK|apply wA|apply wB|apply wC hX hC|apply wD hX hC|apply wE hX hC af|apply wF hX hC af|apply wG|apply wH|apply And.intro))|((with_reducible refine oD ?_ ?_);kernel_rfl)|((with_reducible (first|apply oE|apply oF));(iterate 3 exact rfl);all_goals (intro h;first|(exact absurd h (by decide))|((try simp only [go_sem,simprocAttr,hR,fu,eY,r9,an] at h);(try with_reducible intro K hK);simp only [go_sem,simprocAttr,hR,fu,eY,r9,an])))|((first|((with_reducible apply wL);exact rfl)|((with_reducible apply wM);exact rfl));all_goals (try ((with_reducible intro h);first|(exact absurd h (by decide))|(try simp only [go_sem,simprocAttr,hR,fu,eY,r9,an] at h))))|omega|((first|(refine aV hX hC hP [(10000,10000)] (bC g hl f x jb hp1) rfl rfl rfl ?_ ?_ ?_ ?_ ?_ ?_ rfl rfl ?_ ?_;(focus (simp only [go_sem,simprocAttr,hR,fu,eY,r9,an];done));(iterate 6 (focus (simp [go_sem,simprocAttr,hR,fu,eY,r9,an];done)));simp only [go_sem,simprocAttr,hR,fu,eY,r9,an,List.map_cons,List.map_nil])|refine aa hX hC hP (bg g x true hl) rfl rfl rfl (by simp only [go_sem,simprocAttr,hR,fu,eY,r9,an]) rfl ?_|refine aa hX hC hP (bq outs ((bn g x).getD k 0) tZ) rfl rfl rfl (by simp only [go_sem,simprocAttr,hR,fu,eY,r9,an]) rfl ?_);try simp only [go_sem,simprocAttr,hR,fu,eY,r9,an])|(intro h))
 rw [ne_eq,Decidable.not_not] at hlen
 have an:decide ((outs.length:Int)=((bn g x).length:Int))=true:=decide_eq_true (by omega)
 have hP:c7 g f x outs=if ∃i∈bn g x,i∉outs then (([],1),f) else az g f x outs:=by
  unfold c7
  rw [if_neg H8]
  by_cases hE:∃i∈bn g x,i∉outs
  ·rw [if_pos (.inr hE),if_pos hE]
  ·rw [if_neg (fun h=>by rcases h with h|h;exact h hlen;exact hE h),if_neg hE]
 rw [hP]
 generalize IJ:(if ∃i∈bn g x,i∉outs then (([],1),f) else az g f x outs:(List It × Int) × Fr)=pp
 unfold fu
 (refine Spec.intro (C:=T.cfg [] []) (rs:= [.t 6, .t 7]) (T.aj _ _) Tryz.func118 rfl rfl Tryz.ntmps118 Tryz.results118 (by simp [AObj.isNest]) (by simp [AObj.isNest]) (by kernel_rfl) ?_;intro X hX hP hC aD aF vals hA;refine ⟨_,by simp,hA, ?_⟩;have af:X.P.follows .mixedOrders=true:=(by rw [hP];exact T.mixed);clear aD aF)
 repeat' (first|((first|((with_reducible (first|apply oA|apply oB));exact rfl;intro K hK)|(refine hK _ ?_;clear hK K)|((with_reducible (first|apply oG|apply oH));iterate 3 exact rfl)|((with_reducible apply oI);(iterate 2 exact rfl);intro K hK)|(with_reducible (first|apply wI|apply wJ|apply wK)));try simp only [go_sem,simprocAttr,hR,fu,eY,r9,an])|(with_reducible (first|apply oC|apply oJ|exact oK|apply wA|apply wB|apply wC hX hC|apply wD hX hC|apply wE hX hC af|apply wF hX hC af|apply wG|apply wH|apply And.intro))|((with_reducible refine oD ?_ ?_);kernel_rfl)|((with_reducible (first|apply oE|apply oF));(iterate 3 exact rfl);all_goals (intro h;first|(exact absurd h (by decide))|((try simp only [go_sem,simprocAttr,hR,fu,eY,r9,an] at h);(try with_reducible intro K hK);simp only [go_sem,simprocAttr,hR,fu,eY,r9,an])))|((first|((with_reducible apply wL);exact rfl)|((with_reducible apply wM);exact rfl));all_goals (try ((with_reducible intro h);first|(exact absurd h (by decide))|(try simp only [go_sem,simprocAttr,hR,fu,eY,r9,an] at h))))|omega|((first|(refine aV hX hC hP [(10000,10000)] (bC g hl f x jb hp1) rfl rfl rfl ?_ ?_ ?_ ?_ ?_ ?_ rfl rfl ?_ ?_;(focus (simp only [go_sem,simprocAttr,hR,fu,eY,r9,an];done));(iterate 6 (focus (simp [go_sem,simprocAttr,hR,fu,eY,r9,an];done)));simp only [go_sem,simprocAttr,hR,fu,eY,r9,an,List.map_cons,List.map_nil])|refine aa hX hC hP (bg g x true hl) rfl rfl rfl (by simp only [go_sem,simprocAttr,hR,fu,eY,r9,an]) rfl ?_|refine aa hX hC hP (bq outs ((bn g x).getD k 0) tZ) rfl rfl rfl (by simp only [go_sem,simprocAttr,hR,fu,eY,r9,an]) rfl ?_);try simp only [go_sem,simprocAttr,hR,fu,eY,r9,an])|(intro h))
 refine ah (fun k:Nat=>k≤(bn g x).length∧∀j,j<k→(bn g x).getD j 0∈outs) (fun k=>⟨[(0, .ptr 10000 0),(1,eN x),(2, .d (sI outs)),(8, .d (sI (bn g x))),(9,eN k)], [(10000, .box [eN g.n, .d (sE g.es), .d (sT f.row), .d (sI f.pl)])]⟩) (fun k=>(bn g x).length - k) 0 (by simp) ?_ ?_
 ·(refine Le.of ?_ ?_<;>simp [go_sem,simprocAttr,hR,fu,eY,r9,an])
 rintro k ⟨hk,hg⟩
 rcases Nat.lt_or_ge k (bn g x).length with hlt|hge
 ·have hb:decide ((k:Int)<((bn g x).length:Int))=true:=decide_eq_true (by omega)
  by_cases hin:(bn g x).getD k 0∈outs
  ·have ak:decide ((bn g x).getD k 0∈outs)=true:=decide_eq_true hin
   repeat' (first|((first|((with_reducible (first|apply oA|apply oB));exact rfl;intro K hK)|(refine hK _ ?_;clear hK K)|((with_reducible (first|apply oG|apply oH));iterate 3 exact rfl)|((with_reducible apply oI);(iterate 2 exact rfl);intro K hK)|(with_reducible (first|apply wI|apply wJ|apply wK)));try simp only [go_sem,simprocAttr,hb,ak])|(with_reducible (first|apply oC|apply oJ|exact oK|apply wA|apply wB|apply wC hX hC|apply wD hX hC|apply wE hX hC af|apply wF hX hC af|apply wG|apply wH|apply And.intro))|((with_reducible refine oD ?_ ?_);kernel_rfl)|((with_reducible (first|apply oE|apply oF));(iterate 3 exact rfl);all_goals (intro h;first|(exact absurd h (by decide))|((try simp only [go_sem,simprocAttr,hb,ak] at h);(try with_reducible intro K hK);simp only [go_sem,simprocAttr,hb,ak])))|((first|((with_reducible apply wL);exact rfl)|((with_reducible apply wM);exact rfl));all_goals (try ((with_reducible intro h);first|(exact absurd h (by decide))|(try simp only [go_sem,simprocAttr,hb,ak] at h))))|omega|((first|(refine aV hX hC hP [(10000,10000)] (bC g hl f x jb hp1) rfl rfl rfl ?_ ?_ ?_ ?_ ?_ ?_ rfl rfl ?_ ?_;(focus (simp only [go_sem,simprocAttr,hb,ak];done));(iterate 6 (focus (simp [go_sem,simprocAttr,hb,ak];done)));simp only [go_sem,simprocAttr,hb,ak,List.map_cons,List.map_nil])|refine aa hX hC hP (bg g x true hl) rfl rfl rfl (by simp only [go_sem,simprocAttr,hb,ak]) rfl ?_|refine aa hX hC hP (bq outs ((bn g x).getD k 0) tZ) rfl rfl rfl (by simp only [go_sem,simprocAttr,hb,ak]) rfl ?_);try simp only [go_sem,simprocAttr,hb,ak])|(intro h))
   refine ⟨k+1,⟨by omega,fun j hj=> ?_⟩, ?_,by omega⟩
   ·by_cases hjk:j=k
    ·subst hjk;exact hin
    ·exact hg j (by omega)
   ·(refine Le.of ?_ ?_<;>simp [go_sem,simprocAttr,hb,ak])
  ·have ak:decide ((bn g x).getD k 0∈outs)=false:=decide_eq_false hin
   rw [if_pos ⟨_,aS (d:=0) hlt,hin⟩] at IJ
   subst IJ
   repeat' (first|((first|((with_reducible (first|apply oA|apply oB));exact rfl;intro K hK)|(refine hK _ ?_;clear hK K)|((with_reducible (first|apply oG|apply oH));iterate 3 exact rfl)|((with_reducible apply oI);(iterate 2 exact rfl);intro K hK)|(with_reducible (first|apply wI|apply wJ|apply wK)));try simp only [go_sem,simprocAttr,hb,ak])|(with_reducible (first|apply oC|apply oJ|exact oK|apply wA|apply wB|apply wC hX hC|apply wD hX hC|apply wE hX hC af|apply wF hX hC af|apply wG|apply wH|apply And.intro))|((with_reducible refine oD ?_ ?_);kernel_rfl)|((with_reducible (first|apply oE|apply oF));(iterate 3 exact rfl);all_goals (intro h;first|(exact absurd h (by decide))|((try simp only [go_sem,simprocAttr,hb,ak] at h);(try with_reducible intro K hK);simp only [go_sem,simprocAttr,hb,ak])))|((first|((with_reducible apply wL);exact rfl)|((with_reducible apply wM);exact rfl));all_goals (try ((with_reducible intro h);first|(exact absurd h (by decide))|(try simp only [go_sem,simprocAttr,hb,ak] at h))))|omega|((first|(refine aV hX hC hP [(10000,10000)] (bC g hl f x jb hp1) rfl rfl rfl ?_ ?_ ?_ ?_ ?_ ?_ rfl rfl ?_ ?_;(focus (simp only [go_sem,simprocAttr,hb,ak];done));(iterate 6 (focus (simp [go_sem,simprocAttr,hb,ak];done)));simp only [go_sem,simprocAttr,hb,ak,List.map_cons,List.map_nil])|refine aa hX hC hP (bg g x true hl) rfl rfl rfl (by simp only [go_sem,simprocAttr,hb,ak]) rfl ?_|refine aa hX hC hP (bq outs ((bn g x).getD k 0) tZ) rfl rfl rfl (by simp only [go_sem,simprocAttr,hb,ak]) rfl ?_);try simp only [go_sem,simprocAttr,hb,ak])|(intro h))
 have hb:decide ((k:Int)<((bn g x).length:Int))=false:=decide_eq_false (by omega)
 have hsub:∀i∈bn g x,i∈outs:=fun i hi=>by
  obtain ⟨j,hj,rfl⟩:=List.mem_iff_getElem.1 hi
  have:=hg j (by omega)
  rwa [List.getD_eq_getElem?_getD,List.getElem?_eq_getElem hj] at this
 have Gd:∀i∈outs,0≤i∧i<g.es.length:=fun i hi=>(dR (wU bX hsub hlen i hi)).1
 rw [if_neg (fun ⟨i,h1,h2⟩=>h2 (hsub i h1))] at IJ
 subst IJ
 clear hk hg hge hsub hP
 repeat' (first|((first|((with_reducible (first|apply oA|apply oB));exact rfl;intro K hK)|(refine hK _ ?_;clear hK K)|((with_reducible (first|apply oG|apply oH));iterate 3 exact rfl)|((with_reducible apply oI);(iterate 2 exact rfl);intro K hK)|(with_reducible (first|apply wI|apply wJ|apply wK)));try simp only [go_sem,simprocAttr,hb])|(with_reducible (first|apply oC|apply oJ|exact oK|apply wA|apply wB|apply wC hX hC|apply wD hX hC|apply wE hX hC af|apply wF hX hC af|apply wG|apply wH|apply And.intro))|((with_reducible refine oD ?_ ?_);kernel_rfl)|((with_reducible (first|apply oE|apply oF));(iterate 3 exact rfl);all_goals (intro h;first|(exact absurd h (by decide))|((try simp only [go_sem,simprocAttr,hb] at h);(try with_reducible intro K hK);simp only [go_sem,simprocAttr,hb])))|((first|((with_reducible apply wL);exact rfl)|((with_reducible apply wM);exact rfl));all_goals (try ((with_reducible intro h);first|(exact absurd h (by decide))|(try simp only [go_sem,simprocAttr,hb] at h))))|omega|((first|(refine aV hX hC hP [(10000,10000)] (bC g hl f x jb hp1) rfl rfl rfl ?_ ?_ ?_ ?_ ?_ ?_ rfl rfl ?_ ?_;(focus (simp only [go_sem,simprocAttr,hb];done));(iterate 6 (focus (simp [go_sem,simprocAttr,hb];done)));simp only [go_sem,simprocAttr,hb,List.map_cons,List.map_nil])|refine aa hX hC hP (bg g x true hl) rfl rfl rfl (by simp only [go_sem,simprocAttr,hb]) rfl ?_|refine aa hX hC hP (bq outs ((bn g x).getD k 0) tZ) rfl rfl rfl (by simp only [go_sem,simprocAttr,hb]) rfl ?_);try simp only [go_sem,simprocAttr,hb])|(intro h))
 (refine nE hX 10 45 72 (by simp only [go_sem,simprocAttr,hb]) rfl (by first|exact .inl rfl|exact .inr rfl) (by decide) ?_;simp only [go_sem,simprocAttr,hb])
 refine ah (fun k:Nat=>k≤outs.length) (fun k=>⟨[(0, .ptr 10000 0),(1,eN x),(2, .d (sI outs)),(11,eN k),(10, .ref 72)], [(10000, .box [eN g.n, .d (sE g.es), .d (sT f.row), .d (sI f.pl)]),(72, .tip 96 3 (((outs.take k).map (fL g x)).map rT))]⟩) (fun k=>outs.length - k) 0 (by omega) ?_ ?_
 ·refine Le.of ?_ ?_<;>simp [go_sem,simprocAttr,hb]
 clear hb
 rintro k hk
 rcases Nat.lt_or_ge k outs.length with hlt|hge
 ·have hb:decide ((k:Int)<(outs.length:Int))=true:=decide_eq_true (by omega)
  have dQ:=kI (f:=fL g x) (d:=0) hlt
  have Jz:=Gd _ (aS (d:=0) hlt)
  have hlk:(outs.take k).length=k:=by simp;omega
  repeat' (first|((first|((with_reducible (first|apply oA|apply oB));exact rfl;intro K hK)|(refine hK _ ?_;clear hK K)|((with_reducible (first|apply oG|apply oH));iterate 3 exact rfl)|((with_reducible apply oI);(iterate 2 exact rfl);intro K hK)|(with_reducible (first|apply wI|apply wJ|apply wK)));try simp only [go_sem,simprocAttr,hb,hlk])|(with_reducible (first|apply oC|apply oJ|exact oK|apply wA|apply wB|apply wC hX hC|apply wD hX hC|apply wE hX hC af|apply wF hX hC af|apply wG|apply wH|apply And.intro))|((with_reducible refine oD ?_ ?_);kernel_rfl)|((with_reducible (first|apply oE|apply oF));(iterate 3 exact rfl);all_goals (intro h;first|(exact absurd h (by decide))|((try simp only [go_sem,simprocAttr,hb,hlk] at h);(try with_reducible intro K hK);simp only [go_sem,simprocAttr,hb,hlk])))|((first|((with_reducible apply wL);exact rfl)|((with_reducible apply wM);exact rfl));all_goals (try ((with_reducible intro h);first|(exact absurd h (by decide))|(try simp only [go_sem,simprocAttr,hb,hlk] at h))))|omega|((first|(refine aV hX hC hP [(10000,10000)] (bC g hl f x jb hp1) rfl rfl rfl ?_ ?_ ?_ ?_ ?_ ?_ rfl rfl ?_ ?_;(focus (simp only [go_sem,simprocAttr,hb,hlk];done));(iterate 6 (focus (simp [go_sem,simprocAttr,hb,hlk];done)));simp only [go_sem,simprocAttr,hb,hlk,List.map_cons,List.map_nil])|refine aa hX hC hP (bg g x true hl) rfl rfl rfl (by simp only [go_sem,simprocAttr,hb,hlk]) rfl ?_|refine aa hX hC hP (bq outs ((bn g x).getD k 0) tZ) rfl rfl rfl (by simp only [go_sem,simprocAttr,hb,hlk]) rfl ?_);try simp only [go_sem,simprocAttr,hb,hlk])|(intro h))
  refine ⟨k+1,by omega, ?_,by omega⟩
  refine Le.of ?_ ?_<;>simp [go_sem,simprocAttr,hb,hlk,dQ,fL]
 have hb:decide ((k:Int)<(outs.length:Int))=false:=decide_eq_false (by omega)
 obtain rfl:k=outs.length:=by omega
 have ht:outs.take outs.length=outs:=List.take_of_length_le (by omega)
 clear hk hge
 by_cases h0:outs= []
 ·have hA:aO g x outs= [(-1,x, -1)]:=if_pos h0
  have hb0:decide ((outs.length:Int)=0)=true:=decide_eq_true (by rw [h0];rfl)
  have hm0:(outs.map (fL g x)).map rT= []:=by rw [h0];rfl
  repeat' (first|((first|((with_reducible (first|apply oA|apply oB));exact rfl;intro K hK)|(refine hK _ ?_;clear hK K)|((with_reducible (first|apply oG|apply oH));iterate 3 exact rfl)|((with_reducible apply oI);(iterate 2 exact rfl);intro K hK)|(with_reducible (first|apply wI|apply wJ|apply wK)));try simp only [go_sem,simprocAttr,hb,ht,hb0,hm0,List.nil_append])|(with_reducible (first|apply oC|apply oJ|exact oK|apply wA|apply wB|apply wC hX hC|apply wD hX hC|apply wE hX hC af|apply wF hX hC af|apply wG|apply wH|apply And.intro))|((with_reducible refine oD ?_ ?_);kernel_rfl)|((with_reducible (first|apply oE|apply oF));(iterate 3 exact rfl);all_goals (intro h;first|(exact absurd h (by decide))|((try simp only [go_sem,simprocAttr,hb,ht,hb0,hm0,List.nil_append] at h);(try with_reducible intro K hK);simp only [go_sem,simprocAttr,hb,ht,hb0,hm0,List.nil_append])))|((first|((with_reducible apply wL);exact rfl)|((with_reducible apply wM);exact rfl));all_goals (try ((with_reducible intro h);first|(exact absurd h (by decide))|(try simp only [go_sem,simprocAttr,hb,ht,hb0,hm0,List.nil_append] at h))))|omega|((first|(refine aV hX hC hP [(10000,10000)] (bC g hl f x jb hp1) rfl rfl rfl ?_ ?_ ?_ ?_ ?_ ?_ rfl rfl ?_ ?_;(focus (simp only [go_sem,simprocAttr,hb,ht,hb0,hm0,List.nil_append];done));(iterate 6 (focus (simp [go_sem,simprocAttr,hb,ht,hb0,hm0,List.nil_append];done)));simp only [go_sem,simprocAttr,hb,ht,hb0,hm0,List.nil_append,List.map_cons,List.map_nil])|refine aa hX hC hP (bg g x true hl) rfl rfl rfl (by simp only [go_sem,simprocAttr,hb,ht,hb0,hm0,List.nil_append]) rfl ?_|refine aa hX hC hP (bq outs ((bn g x).getD k 0) tZ) rfl rfl rfl (by simp only [go_sem,simprocAttr,hb,ht,hb0,hm0,List.nil_append]) rfl ?_);try simp only [go_sem,simprocAttr,hb,ht,hb0,hm0,List.nil_append])|(intro h))
  (refine nE hX 10 80 72 (by simp only [go_sem,simprocAttr,hb,ht,hb0,hm0,List.nil_append]) rfl (by first|exact .inl rfl|exact .inr rfl) (by decide) ?_;simp only [go_sem,simprocAttr,hb,ht,hb0,hm0,List.nil_append])
  refine ah (fun k:Nat=>k≤f.row.length) (fun k=>⟨[(0, .ptr 10000 0),(1,eN x),(10, .ref 72),(12,eN (cL f.row x k).1),(13,eN ((cL f.row x k).2.1 - 1)),(14,eN k)], [(10000, .box [eN g.n, .d (sE g.es), .d (sT f.row), .d (sI f.pl)]),(72, .tip 96 3 ((aO g x outs).map rT))]⟩) (fun k=>f.row.length - k) 0 (by omega) ?_ ?_
  ·refine Le.of ?_ ?_<;>simp [go_sem,simprocAttr,hb,ht,hb0,hm0,List.nil_append,cL,hA]
  rintro k hk
  rcases Nat.lt_or_ge k f.row.length with hlt|hge
  ·have hb:decide ((k:Int)<(f.row.length:Int))=true:=decide_eq_true (by omega)
   have hok:=cZ (row:=f.row) (x:=x) k
   have dQ:=iV (row:=f.row) (x:=x) (k:=k)
   have tX:(cL f.row x k).1<0↔(cL f.row x k).1= -1:=by
    rcases hok with ⟨h1,_⟩|⟨a,b,c,h1,_⟩
    ·rw [h1];exact ⟨fun _=>rfl,fun _=>by decide⟩
    ·rw [h1];show (a:Int)<0↔(a:Int)= -1;omega
   repeat' (first|((first|((with_reducible (first|apply oA|apply oB));exact rfl;intro K hK)|(refine hK _ ?_;clear hK K)|((with_reducible (first|apply oG|apply oH));iterate 3 exact rfl)|((with_reducible apply oI);(iterate 2 exact rfl);intro K hK)|(with_reducible (first|apply wI|apply wJ|apply wK)));try simp only [go_sem,simprocAttr,hb])|(with_reducible (first|apply oC|apply oJ|exact oK|apply wA|apply wB|apply wC hX hC|apply wD hX hC|apply wE hX hC af|apply wF hX hC af|apply wG|apply wH|apply And.intro))|((with_reducible refine oD ?_ ?_);kernel_rfl)|((with_reducible (first|apply oE|apply oF));(iterate 3 exact rfl);all_goals (intro h;first|(exact absurd h (by decide))|((try simp only [go_sem,simprocAttr,hb] at h);(try with_reducible intro K hK);simp only [go_sem,simprocAttr,hb])))|((first|((with_reducible apply wL);exact rfl)|((with_reducible apply wM);exact rfl));all_goals (try ((with_reducible intro h);first|(exact absurd h (by decide))|(try simp only [go_sem,simprocAttr,hb] at h))))|omega|((first|(refine aV hX hC hP [(10000,10000)] (bC g hl f x jb hp1) rfl rfl rfl ?_ ?_ ?_ ?_ ?_ ?_ rfl rfl ?_ ?_;(focus (simp only [go_sem,simprocAttr,hb];done));(iterate 6 (focus (simp [go_sem,simprocAttr,hb];done)));simp only [go_sem,simprocAttr,hb,List.map_cons,List.map_nil])|refine aa hX hC hP (bg g x true hl) rfl rfl rfl (by simp only [go_sem,simprocAttr,hb]) rfl ?_|refine aa hX hC hP (bq outs ((bn g x).getD k 0) tZ) rfl rfl rfl (by simp only [go_sem,simprocAttr,hb]) rfl ?_);try simp only [go_sem,simprocAttr,hb])|(intro h))
   all_goals (try rw [tX] at*)
   all_goals (first|rw [if_neg (by assumption)] at dQ|(rw [if_pos (by assumption)] at dQ;first|rw [if_pos (by assumption)] at dQ|rw [if_neg (by assumption)] at dQ))
   all_goals (refine ⟨k+1,by omega, ?_,by omega⟩;refine Le.of ?_ ?_<;>simp [go_sem,simprocAttr,hb,dQ])
  have hb:decide ((k:Int)<(f.row.length:Int))=false:=decide_eq_false (by omega)
  obtain rfl:k=f.row.length:=by omega
  clear hk hge
  have htr:List.take f.row.length (f.row.map rT)=f.row.map rT:=List.take_of_length_le (by simp)
  have jm:=kJ (g:=g) (x:=x) (outs:=outs)
  rcases cZ (row:=f.row) (x:=x) f.row.length with ⟨hs,_⟩|⟨a,b,c,hs,hab,jG,_⟩
  ·have hS:az g f x outs=(([],0),⟨aO g x outs++f.row,f.pl++ [x]⟩):=by
    have e:aZ f.row x=(-1,0,0):=hs
    unfold az
    rw [e];simp;exact .inl (by decide)
   repeat' (first|(show dz _ .ret _ _;(try simp only [go_sem,simprocAttr,hb,hs,hS,htr,List.map_append,List.map_cons,List.map_nil,rI,List.length_append,List.length_map,List.length_take,List.length_drop]);(refine dF hX 113 rfl ?_;simp only [go_sem,simprocAttr,hb,hs,hS,htr,List.map_append,List.map_cons,List.map_nil,rI,List.length_append,List.length_map,List.length_take,List.length_drop]);first|(refine dF hX 124 rfl ?_;simp only [go_sem,simprocAttr,hb,hs,hS,htr,List.map_append,List.map_cons,List.map_nil,rI,List.length_append,List.length_map,List.length_take,List.length_drop])|(refine dF hX 156 rfl ?_;simp only [go_sem,simprocAttr,hb,hs,hS,htr,List.map_append,List.map_cons,List.map_nil,rI,List.length_append,List.length_map,List.length_take,List.length_drop]))|((first|((with_reducible (first|apply oA|apply oB));exact rfl;intro K hK)|(refine hK _ ?_;clear hK K)|((with_reducible (first|apply oG|apply oH));iterate 3 exact rfl)|((with_reducible apply oI);(iterate 2 exact rfl);intro K hK)|(with_reducible (first|apply wI|apply wJ|apply wK)));try simp only [go_sem,simprocAttr,hb,hs,hS,htr,List.map_append,List.map_cons,List.map_nil,rI,List.length_append,List.length_map,List.length_take,List.length_drop])|(with_reducible (first|apply oC|apply oJ|exact oK|apply wA|apply wB|apply wC hX hC|apply wD hX hC|apply wE hX hC af|apply wF hX hC af|apply wG|apply wH|apply And.intro))|((with_reducible refine oD ?_ ?_);kernel_rfl)|((with_reducible (first|apply oE|apply oF));(iterate 3 exact rfl);all_goals (intro h;first|(exact absurd h (by decide))|((try simp only [go_sem,simprocAttr,hb,hs,hS,htr,List.map_append,List.map_cons,List.map_nil,rI,List.length_append,List.length_map,List.length_take,List.length_drop] at h);(try with_reducible intro K hK);simp only [go_sem,simprocAttr,hb,hs,hS,htr,List.map_append,List.map_cons,List.map_nil,rI,List.length_append,List.length_map,List.length_take,List.length_drop])))|((first|((with_reducible apply wL);exact rfl)|((with_reducible apply wM);exact rfl));all_goals (try ((with_reducible intro h);first|(exact absurd h (by decide))|(try simp only [go_sem,simprocAttr,hb,hs,hS,htr,List.map_append,List.map_cons,List.map_nil,rI,List.length_append,List.length_map,List.length_take,List.length_drop] at h))))|omega|((first|(refine aV hX hC hP [(10000,10000)] (bC g hl f x jb hp1) rfl rfl rfl ?_ ?_ ?_ ?_ ?_ ?_ rfl rfl ?_ ?_;(focus (simp only [go_sem,simprocAttr,hb,hs,hS,htr,List.map_append,List.map_cons,List.map_nil,rI,List.length_append,List.length_map,List.length_take,List.length_drop];done));(iterate 6 (focus (simp [go_sem,simprocAttr,hb,hs,hS,htr,List.map_append,List.map_cons,List.map_nil,rI,List.length_append,List.length_map,List.length_take,List.length_drop];done)));simp only [go_sem,simprocAttr,hb,hs,hS,htr,List.map_append,List.map_cons,List.map_nil,rI,List.length_append,List.length_map,List.length_take,List.length_drop,List.map_cons,List.map_nil])|refine aa hX hC hP (bg g x true hl) rfl rfl rfl (by simp only [go_sem,simprocAttr,hb,hs,hS,htr,List.map_append,List.map_cons,List.map_nil,rI,List.length_append,List.length_map,List.length_take,List.length_drop]) rfl ?_|refine aa hX hC hP (bq outs ((bn g x).getD k 0) tZ) rfl rfl rfl (by simp only [go_sem,simprocAttr,hb,hs,hS,htr,List.map_append,List.map_cons,List.map_nil,rI,List.length_append,List.length_map,List.length_take,List.length_drop]) rfl ?_);try simp only [go_sem,simprocAttr,hb,hs,hS,htr,List.map_append,List.map_cons,List.map_nil,rI,List.length_append,List.length_map,List.length_take,List.length_drop])|(intro h))
  ·have hS:az g f x outs=(((f.row.take b).drop a,0),⟨f.row.take a++aO g x outs++f.row.drop b,f.pl++ [x]⟩):=by
    have e:aZ f.row x=((a:Int),(b:Int),(c:Int)):=hs
    unfold az
    rw [e]
    have e1:(max (a:Int) 0).toNat=a:=by omega
    simp only [e1,Int.toNat_natCast]
   have ng:((b:Int) - 1+1)=b:=by omega
   repeat' (first|(show dz _ .ret _ _;(try simp only [go_sem,simprocAttr,hb,hs,hS,ng,htr,List.map_append,List.map_cons,List.map_nil,List.map_take,List.map_drop,rI,List.length_append,List.length_map,List.length_take,List.length_drop]);(refine dF hX 113 rfl ?_;simp only [go_sem,simprocAttr,hb,hs,hS,ng,htr,List.map_append,List.map_cons,List.map_nil,List.map_take,List.map_drop,rI,List.length_append,List.length_map,List.length_take,List.length_drop]);first|(refine dF hX 124 rfl ?_;simp only [go_sem,simprocAttr,hb,hs,hS,ng,htr,List.map_append,List.map_cons,List.map_nil,List.map_take,List.map_drop,rI,List.length_append,List.length_map,List.length_take,List.length_drop])|(refine dF hX 156 rfl ?_;simp only [go_sem,simprocAttr,hb,hs,hS,ng,htr,List.map_append,List.map_cons,List.map_nil,List.map_take,List.map_drop,rI,List.length_append,List.length_map,List.length_take,List.length_drop]))|((first|((with_reducible (first|apply oA|apply oB));exact rfl;intro K hK)|(refine hK _ ?_;clear hK K)|((with_reducible (first|apply oG|apply oH));iterate 3 exact rfl)|((with_reducible apply oI);(iterate 2 exact rfl);intro K hK)|(with_reducible (first|apply wI|apply wJ|apply wK)));try simp only [go_sem,simprocAttr,hb,hs,hS,ng,htr,List.map_append,List.map_cons,List.map_nil,List.map_take,List.map_drop,rI,List.length_append,List.length_map,List.length_take,List.length_drop])|(with_reducible (first|apply oC|apply oJ|exact oK|apply wA|apply wB|apply wC hX hC|apply wD hX hC|apply wE hX hC af|apply wF hX hC af|apply wG|apply wH|apply And.intro))|((with_reducible refine oD ?_ ?_);kernel_rfl)|((with_reducible (first|apply oE|apply oF));(iterate 3 exact rfl);all_goals (intro h;first|(exact absurd h (by decide))|((try simp only [go_sem,simprocAttr,hb,hs,hS,ng,htr,List.map_append,List.map_cons,List.map_nil,List.map_take,List.map_drop,rI,List.length_append,List.length_map,List.length_take,List.length_drop] at h);(try with_reducible intro K hK);simp only [go_sem,simprocAttr,hb,hs,hS,ng,htr,List.map_append,List.map_cons,List.map_nil,List.map_take,List.map_drop,rI,List.length_append,List.length_map,List.length_take,List.length_drop])))|((first|((with_reducible apply wL);exact rfl)|((with_reducible apply wM);exact rfl));all_goals (try ((with_reducible intro h);first|(exact absurd h (by decide))|(try simp only [go_sem,simprocAttr,hb,hs,hS,ng,htr,List.map_append,List.map_cons,List.map_nil,List.map_take,List.map_drop,rI,List.length_append,List.length_map,List.length_take,List.length_drop] at h))))|omega|((first|(refine aV hX hC hP [(10000,10000)] (bC g hl f x jb hp1) rfl rfl rfl ?_ ?_ ?_ ?_ ?_ ?_ rfl rfl ?_ ?_;(focus (simp only [go_sem,simprocAttr,hb,hs,hS,ng,htr,List.map_append,List.map_cons,List.map_nil,List.map_take,List.map_drop,rI,List.length_append,List.length_map,List.length_take,List.length_drop];done));(iterate 6 (focus (simp [go_sem,simprocAttr,hb,hs,hS,ng,htr,List.map_append,List.map_cons,List.map_nil,List.map_take,List.map_drop,rI,List.length_append,List.length_map,List.length_take,List.length_drop];done)));simp only [go_sem,simprocAttr,hb,hs,hS,ng,htr,List.map_append,List.map_cons,List.map_nil,List.map_take,List.map_drop,rI,List.length_append,List.length_map,List.length_take,List.length_drop,List.map_cons,List.map_nil])|refine aa hX hC hP (bg g x true hl) rfl rfl rfl (by simp only [go_sem,simprocAttr,hb,hs,hS,ng,htr,List.map_append,List.map_cons,List.map_nil,List.map_take,List.map_drop,rI,List.length_append,List.length_map,List.length_take,List.length_drop]) rfl ?_|refine aa hX hC hP (bq outs ((bn g x).getD k 0) tZ) rfl rfl rfl (by simp only [go_sem,simprocAttr,hb,hs,hS,ng,htr,List.map_append,List.map_cons,List.map_nil,List.map_take,List.map_drop,rI,List.length_append,List.length_map,List.length_take,List.length_drop]) rfl ?_);try simp only [go_sem,simprocAttr,hb,hs,hS,ng,htr,List.map_append,List.map_cons,List.map_nil,List.map_take,List.map_drop,rI,List.length_append,List.length_map,List.length_take,List.length_drop])|(intro h))
 ·have hA:aO g x outs=outs.map (fL g x):=if_neg h0
  have hb0:decide ((outs.length:Int)=0)=false:=decide_eq_false fun h=>h0 (List.eq_nil_of_length_eq_zero (by omega))
  repeat' (first|((first|((with_reducible (first|apply oA|apply oB));exact rfl;intro K hK)|(refine hK _ ?_;clear hK K)|((with_reducible (first|apply oG|apply oH));iterate 3 exact rfl)|((with_reducible apply oI);(iterate 2 exact rfl);intro K hK)|(with_reducible (first|apply wI|apply wJ|apply wK)));try simp only [go_sem,simprocAttr,hb,ht,hb0])|(with_reducible (first|apply oC|apply oJ|exact oK|apply wA|apply wB|apply wC hX hC|apply wD hX hC|apply wE hX hC af|apply wF hX hC af|apply wG|apply wH|apply And.intro))|((with_reducible refine oD ?_ ?_);kernel_rfl)|((with_reducible (first|apply oE|apply oF));(iterate 3 exact rfl);all_goals (intro h;first|(exact absurd h (by decide))|((try simp only [go_sem,simprocAttr,hb,ht,hb0] at h);(try with_reducible intro K hK);simp only [go_sem,simprocAttr,hb,ht,hb0])))|((first|((with_reducible apply wL);exact rfl)|((with_reducible apply wM);exact rfl));all_goals (try ((with_reducible intro h);first|(exact absurd h (by decide))|(try simp only [go_sem,simprocAttr,hb,ht,hb0] at h))))|omega|((first|(refine aV hX hC hP [(10000,10000)] (bC g hl f x jb hp1) rfl rfl rfl ?_ ?_ ?_ ?_ ?_ ?_ rfl rfl ?_ ?_;(focus (simp only [go_sem,simprocAttr,hb,ht,hb0];done));(iterate 6 (focus (simp [go_sem,simprocAttr,hb,ht,hb0];done)));simp only [go_sem,simprocAttr,hb,ht,hb0,List.map_cons,List.map_nil])|refine aa hX hC hP (bg g x true hl) rfl rfl rfl (by simp only [go_sem,simprocAttr,hb,ht,hb0]) rfl ?_|refine aa hX hC hP (bq outs ((bn g x).getD k 0) tZ) rfl rfl rfl (by simp only [go_sem,simprocAttr,hb,ht,hb0]) rfl ?_);try simp only [go_sem,simprocAttr,hb,ht,hb0])|(intro h))
  refine ah (fun k:Nat=>k≤f.row.length) (fun k=>⟨[(0, .ptr 10000 0),(1,eN x),(10, .ref 72),(12,eN (cL f.row x k).1),(13,eN ((cL f.row x k).2.1 - 1)),(14,eN k)], [(10000, .box [eN g.n, .d (sE g.es), .d (sT f.row), .d (sI f.pl)]),(72, .tip 96 3 ((aO g x outs).map rT))]⟩) (fun k=>f.row.length - k) 0 (by omega) ?_ ?_
  ·refine Le.of ?_ ?_<;>simp [go_sem,simprocAttr,hb,ht,hb0,cL,hA]
  rintro k hk
  rcases Nat.lt_or_ge k f.row.length with hlt|hge
  ·have hb:decide ((k:Int)<(f.row.length:Int))=true:=decide_eq_true (by omega)
   have hok:=cZ (row:=f.row) (x:=x) k
   have dQ:=iV (row:=f.row) (x:=x) (k:=k)
   have tX:(cL f.row x k).1<0↔(cL f.row x k).1= -1:=by
    rcases hok with ⟨h1,_⟩|⟨a,b,c,h1,_⟩
    ·rw [h1];exact ⟨fun _=>rfl,fun _=>by decide⟩
    ·rw [h1];show (a:Int)<0↔(a:Int)= -1;omega
   repeat' (first|((first|((with_reducible (first|apply oA|apply oB));exact rfl;intro K hK)|(refine hK _ ?_;clear hK K)|((with_reducible (first|apply oG|apply oH));iterate 3 exact rfl)|((with_reducible apply oI);(iterate 2 exact rfl);intro K hK)|(with_reducible (first|apply wI|apply wJ|apply wK)));try simp only [go_sem,simprocAttr,hb])|(with_reducible (first|apply oC|apply oJ|exact oK|apply wA|apply wB|apply wC hX hC|apply wD hX hC|apply wE hX hC af|apply wF hX hC af|apply wG|apply wH|apply And.intro))|((with_reducible refine oD ?_ ?_);kernel_rfl)|((with_reducible (first|apply oE|apply oF));(iterate 3 exact rfl);all_goals (intro h;first|(exact absurd h (by decide))|((try simp only [go_sem,simprocAttr,hb] at h);(try with_reducible intro K hK);simp only [go_sem,simprocAttr,hb])))|((first|((with_reducible apply wL);exact rfl)|((with_reducible apply wM);exact rfl));all_goals (try ((with_reducible intro h);first|(exact absurd h (by decide))|(try simp only [go_sem,simprocAttr,hb] at h))))|omega|((first|(refine aV hX hC hP [(10000,10000)] (bC g hl f x jb hp1) rfl rfl rfl ?_ ?_ ?_ ?_ ?_ ?_ rfl rfl ?_ ?_;(focus (simp only [go_sem,simprocAttr,hb];done));(iterate 6 (focus (simp [go_sem,simprocAttr,hb];done)));simp only [go_sem,simprocAttr,hb,List.map_cons,List.map_nil])|refine aa hX hC hP (bg g x true hl) rfl rfl rfl (by simp only [go_sem,simprocAttr,hb]) rfl ?_|refine aa hX hC hP (bq outs ((bn g x).getD k 0) tZ) rfl rfl rfl (by simp only [go_sem,simprocAttr,hb]) rfl ?_);try simp only [go_sem,simprocAttr,hb])|(intro h))
   all_goals (try rw [tX] at*)
   all_goals (first|rw [if_neg (by assumption)] at dQ|(rw [if_pos (by assumption)] at dQ;first|rw [if_pos (by assumption)] at dQ|rw [if_neg (by assumption)] at dQ))
   all_goals (refine ⟨k+1,by omega, ?_,by omega⟩;refine Le.of ?_ ?_<;>simp [go_sem,simprocAttr,hb,dQ])
  have hb:decide ((k:Int)<(f.row.length:Int))=false:=decide_eq_false (by omega)
  obtain rfl:k=f.row.length:=by omega
  clear hk hge
  have htr:List.take f.row.length (f.row.map rT)=f.row.map rT:=List.take_of_length_le (by simp)
  have jm:=kJ (g:=g) (x:=x) (outs:=outs)
  rcases cZ (row:=f.row) (x:=x) f.row.length with ⟨hs,_⟩|⟨a,b,c,hs,hab,jG,_⟩
  ·have hS:az g f x outs=(([],0),⟨aO g x outs++f.row,f.pl++ [x]⟩):=by
    have e:aZ f.row x=(-1,0,0):=hs
    unfold az
    rw [e];simp;exact .inl (by decide)
   repeat' (first|(show dz _ .ret _ _;(try simp only [go_sem,simprocAttr,hb,hs,hS,htr,List.map_append,List.map_cons,List.map_nil,rI,List.length_append,List.length_map,List.length_take,List.length_drop]);(refine dF hX 113 rfl ?_;simp only [go_sem,simprocAttr,hb,hs,hS,htr,List.map_append,List.map_cons,List.map_nil,rI,List.length_append,List.length_map,List.length_take,List.length_drop]);first|(refine dF hX 124 rfl ?_;simp only [go_sem,simprocAttr,hb,hs,hS,htr,List.map_append,List.map_cons,List.map_nil,rI,List.length_append,List.length_map,List.length_take,List.length_drop])|(refine dF hX 156 rfl ?_;simp only [go_sem,simprocAttr,hb,hs,hS,htr,List.map_append,List.map_cons,List.map_nil,rI,List.length_append,List.length_map,List.length_take,List.length_drop]))|((first|((with_reducible (first|apply oA|apply oB));exact rfl;intro K hK)|(refine hK _ ?_;clear hK K)|((with_reducible (first|apply oG|apply oH));iterate 3 exact rfl)|((with_reducible apply oI);(iterate 2 exact rfl);intro K hK)|(with_reducible (first|apply wI|apply wJ|apply wK)));try simp only [go_sem,simprocAttr,hb,hs,hS,htr,List.map_append,List.map_cons,List.map_nil,rI,List.length_append,List.length_map,List.length_take,List.length_drop])|(with_reducible (first|apply oC|apply oJ|exact oK|apply wA|apply wB|apply wC hX hC|apply wD hX hC|apply wE hX hC af|apply wF hX hC af|apply wG|apply wH|apply And.intro))|((with_reducible refine oD ?_ ?_);kernel_rfl)|((with_reducible (first|apply oE|apply oF));(iterate 3 exact rfl);all_goals (intro h;first|(exact absurd h (by decide))|((try simp only [go_sem,simprocAttr,hb,hs,hS,htr,List.map_append,List.map_cons,List.map_nil,rI,List.length_append,List.length_map,List.length_take,List.length_drop] at h);(try with_reducible intro K hK);simp only [go_sem,simprocAttr,hb,hs,hS,htr,List.map_append,List.map_cons,List.map_nil,rI,List.length_append,List.length_map,List.length_take,List.length_drop])))|((first|((with_reducible apply wL);exact rfl)|((with_reducible apply wM);exact rfl));all_goals (try ((with_reducible intro h);first|(exact absurd h (by decide))|(try simp only [go_sem,simprocAttr,hb,hs,hS,htr,List.map_append,List.map_cons,List.map_nil,rI,List.length_append,List.length_map,List.length_take,List.length_drop] at h))))|omega|((first|(refine aV hX hC hP [(10000,10000)] (bC g hl f x jb hp1) rfl rfl rfl ?_ ?_ ?_ ?_ ?_ ?_ rfl rfl ?_ ?_;(focus (simp only [go_sem,simprocAttr,hb,hs,hS,htr,List.map_append,List.map_cons,List.map_nil,rI,List.length_append,List.length_map,List.length_take,List.length_drop];done));(iterate 6 (focus (simp [go_sem,simprocAttr,hb,hs,hS,htr,List.map_append,List.map_cons,List.map_nil,rI,List.length_append,List.length_map,List.length_take,List.length_drop];done)));simp only [go_sem,simprocAttr,hb,hs,hS,htr,List.map_append,List.map_cons,List.map_nil,rI,List.length_append,List.length_map,List.length_take,List.length_drop,List.map_cons,List.map_nil])|refine aa hX hC hP (bg g x true hl) rfl rfl rfl (by simp only [go_sem,simprocAttr,hb,hs,hS,htr,List.map_append,List.map_cons,List.map_nil,rI,List.length_append,List.length_map,List.length_take,List.length_drop]) rfl ?_|refine aa hX hC hP (bq outs ((bn g x).getD k 0) tZ) rfl rfl rfl (by simp only [go_sem,simprocAttr,hb,hs,hS,htr,List.map_append,List.map_cons,List.map_nil,rI,List.length_append,List.length_map,List.length_take,List.length_drop]) rfl ?_);try simp only [go_sem,simprocAttr,hb,hs,hS,htr,List.map_append,List.map_cons,List.map_nil,rI,List.length_append,List.length_map,List.length_take,List.length_drop])|(intro h))
  ·have hS:az g f x outs=(((f.row.take b).drop a,0),⟨f.row.take a++aO g x outs++f.row.drop b,f.pl++ [x]⟩):=by
    have e:aZ f.row x=((a:Int),(b:Int),(c:Int)):=hs
    unfold az
    rw [e]
    have e1:(max (a:Int) 0).toNat=a:=by omega
    simp only [e1,Int.toNat_natCast]
   have ng:((b:Int) - 1+1)=b:=by omega
   repeat' (first|(show dz _ .ret _ _;(try simp only [go_sem,simprocAttr,hb,hs,hS,ng,htr,List.map_append,List.map_cons,List.map_nil,List.map_take,List.map_drop,rI,List.length_append,List.length_map,List.length_take,List.length_drop]);(refine dF hX 113 rfl ?_;simp only [go_sem,simprocAttr,hb,hs,hS,ng,htr,List.map_append,List.map_cons,List.map_nil,List.map_take,List.map_drop,rI,List.length_append,List.length_map,List.length_take,List.length_drop]);first|(refine dF hX 124 rfl ?_;simp only [go_sem,simprocAttr,hb,hs,hS,ng,htr,List.map_append,List.map_cons,List.map_nil,List.map_take,List.map_drop,rI,List.length_append,List.length_map,List.length_take,List.length_drop])|(refine dF hX 156 rfl ?_;simp only [go_sem,simprocAttr,hb,hs,hS,ng,htr,List.map_append,List.map_cons,List.map_nil,List.map_take,List.map_drop,rI,List.length_append,List.length_map,List.length_take,List.length_drop]))|((first|((with_reducible (first|apply oA|apply oB));exact rfl;intro K hK)|(refine hK _ ?_;clear hK K)|((with_reducible (first|apply oG|apply oH));iterate 3 exact rfl)|((with_reducible apply oI);(iterate 2 exact rfl);intro K hK)|(with_reducible (first|apply wI|apply wJ|apply wK)));try simp only [go_sem,simprocAttr,hb,hs,hS,ng,htr,List.map_append,List.map_cons,List.map_nil,List.map_take,List.map_drop,rI,List.length_append,List.length_map,List.length_take,List.length_drop])|(with_reducible (first|apply oC|apply oJ|exact oK|apply wA|apply wB|apply wC hX hC|apply wD hX hC|apply wE hX hC af|apply wF hX hC af|apply wG|apply wH|apply And.intro))|((with_reducible refine oD ?_ ?_);kernel_rfl)|((with_reducible (first|apply oE|apply oF));(iterate 3 exact rfl);all_goals (intro h;first|(exact absurd h (by decide))|((try simp only [go_sem,simprocAttr,hb,hs,hS,ng,htr,List.map_append,List.map_cons,List.map_nil,List.map_take,List.map_drop,rI,List.length_append,List.length_map,List.length_take,List.length_drop] at h);(try with_reducible intro K hK);simp only [go_sem,simprocAttr,hb,hs,hS,ng,htr,List.map_append,List.map_cons,List.map_nil,List.map_take,List.map_drop,rI,List.length_append,List.length_map,List.length_take,List.length_drop])))|((first|((with_reducible apply wL);exact rfl)|((with_reducible apply wM);exact rfl));all_goals (try ((with_reducible intro h);first|(exact absurd h (by decide))|(try simp only [go_sem,simprocAttr,hb,hs,hS,ng,htr,List.map_append,List.map_cons,List.map_nil,List.map_take,List.map_drop,rI,List.length_append,List.length_map,List.length_take,List.length_drop] at h))))|omega|((first|(refine aV hX hC hP [(10000,10000)] (bC g hl f x jb hp1) rfl rfl rfl ?_ ?_ ?_ ?_ ?_ ?_ rfl rfl ?_ ?_;(focus (simp only [go_sem,simprocAttr,hb,hs,hS,ng,htr,List.map_append,List.map_cons,List.map_nil,List.map_take,List.map_drop,rI,List.length_append,List.length_map,List.length_take,List.length_drop];done));(iterate 6 (focus (simp [go_sem,simprocAttr,hb,hs,hS,ng,htr,List.map_append,List.map_cons,List.map_nil,List.map_take,List.map_drop,rI,List.length_append,List.length_map,List.length_take,List.length_drop];done)));simp only [go_sem,simprocAttr,hb,hs,hS,ng,htr,List.map_append,List.map_cons,List.map_nil,List.map_take,List.map_drop,rI,List.length_append,List.length_map,List.length_take,List.length_drop,List.map_cons,List.map_nil])|refine aa hX hC hP (bg g x true hl) rfl rfl rfl (by simp only [go_sem,simprocAttr,hb,hs,hS,ng,htr,List.map_append,List.map_cons,List.map_nil,List.map_take,List.map_drop,rI,List.length_append,List.length_map,List.length_take,List.length_drop]) rfl ?_|refine aa hX hC hP (bq outs ((bn g x).getD k 0) tZ) rfl rfl rfl (by simp only [go_sem,simprocAttr,hb,hs,hS,ng,htr,List.map_append,List.map_cons,List.map_nil,List.map_take,List.map_drop,rI,List.length_append,List.length_map,List.length_take,List.length_drop]) rfl ?_);try simp only [go_sem,simprocAttr,hb,hs,hS,ng,htr,List.map_append,List.map_cons,List.map_nil,List.map_take,List.map_drop,rI,List.length_append,List.length_map,List.length_take,List.length_drop])|(intro h))
end Go.Ab
end
section
namespace Go.Ab
open Go.Proofs
attribute [local congr] ACall.congr
set_option maxRecDepth 10000
set_option maxHeartbeats 4000000
def vI (ls:List (List Int)):List (List D):=ls.map fun l=> [sI l]
theorem vI_length {ls:List (List Int)} :(vI ls).length=ls.length:=by simp [vI]
theorem kK {ls:List (List Int)} {k:Nat} (h:k<ls.length) (d:List D):(vI ls).getD k d= [sI (ls.getD k [])]:=by
 simp [vI,List.getD_eq_getElem?_getD,List.getElem?_eq_getElem h]
attribute [go_sem] vI_length
def AG (l:List Int) (i:Nat):List Int:=l.take i++l.drop (i+1)
def Gg:Nat→List Int→List (List Int)
 |0,_=> [[]]
 |n+1,l=>(List.range l.length).flatMap fun i=>(Gg n (AG l i)).map fun t=>l.getD i 0::t
def O5 (n:Nat) (l:List Int) (k:Nat):List (List Int):=(List.range k).flatMap fun i=>(Gg n (AG l i)).map fun t=>l.getD i 0::t
def O6:Nat→Nat
 |0=>1
 |n+1=>(n+1)*O6 n
theorem tA {α β:Type} {f:α→β} {l:List α} {d:α} {k:Nat} (h:k<l.length):(l.take (k+1)).map f=(l.take k).map f++ [f (l.getD k d)]:=kI h
end Go.Ab
end
section
namespace Go.Ab
open Go.Proofs
attribute [local congr] ACall.congr
set_option maxRecDepth 10000
set_option maxHeartbeats 8000000
def J5 (g:Gr):Nat→Fr→Bool
 |0,f=>decide ((f.pl.length:Int)=g.n)
 |m+1,f=>decide ((f.pl.length:Int)=g.n)||(List.range g.n.toNat).any fun x=>aC g f (x:Int)&&(Gg (bn g (x:Int)).length (bn g (x:Int))).any fun o=>J5 g m (az g f (x:Int) o).2
def O7 (g:Gr) (m:Nat) (f:Fr) (x:Nat):Bool:=aC g f (x:Int)&&(Gg (bn g (x:Int)).length (bn g (x:Int))).any fun o=>J5 g m (az g f (x:Int) o).2
theorem B8 {g:Gr} {f:Fr} {x:Int} {o:List Int} :(az g f x o).2.row.length≤f.row.length+o.length+1∧(az g f x o).2.pl.length=f.pl.length+1:=by
 obtain ⟨a,b,ha,hb,hab,jG⟩:=uT f.row x
 have:=kJ (g:=g) (x:=x) (outs:=o)
 have e:az g f x o=(((f.row.take b).drop a,0),⟨f.row.take a++aO g x o++f.row.drop b,f.pl++ [x]⟩):=by
  simp only [az,ha,hb,Int.toNat_natCast]
 rw [e]
 refine ⟨?_,by simp⟩
 show (f.row.take a++aO g x o++f.row.drop b).length≤_
 rw [List.length_append,List.length_append,List.length_take,List.length_drop]
 omega
end Go.Ab
end
section
namespace Go.Ab
open Go.Proofs
attribute [local congr] ACall.congr
set_option maxRecDepth 10000
set_option maxHeartbeats 4000000
theorem tC (g:Gr) (hl:g.es.length≤9223372036854775807) (hm:aP g=false):Spec Tryz.prog 99 (Args [eG g]) [] (.tup [eN (gu g).1,eN (gu g).2.1, .d (sI (gu g).2.2)]) []:=by
 (refine Spec.intro (C:=T.cfg [] []) (rs:= [.t 2, .t 3, .t 4]) (T.aj _ _) Tryz.func99 rfl rfl Tryz.ntmps99 Tryz.results99 (by simp [AObj.isNest]) (by simp [AObj.isNest]) (by kernel_rfl) ?_;intro X hX hP hC aD aF vals hA;refine ⟨_,by simp,hA, ?_⟩;have af:X.P.follows .mixedOrders=true:=(by rw [hP];exact T.mixed);clear aD aF)
 repeat' (first|((first|((with_reducible (first|apply oA|apply oB));exact rfl;intro K hK)|(refine hK _ ?_;clear hK K)|((with_reducible (first|apply oG|apply oH));iterate 3 exact rfl)|((with_reducible apply oI);(iterate 2 exact rfl);intro K hK)|(with_reducible (first|apply wI|apply wJ|apply wK)));try simp only [go_sem,simprocAttr,hm])|(with_reducible (first|apply oC|apply oJ|exact oK|apply wA|apply wB|apply wC hX hC|apply wD hX hC|apply wE hX hC af|apply wF hX hC af|apply wG|apply wH|apply And.intro))|((with_reducible refine oD ?_ ?_);kernel_rfl)|((with_reducible (first|apply oE|apply oF));(iterate 3 exact rfl);all_goals (intro h;first|(exact absurd h (by decide))|((try simp only [go_sem,simprocAttr,hm] at h);(try with_reducible intro K hK);simp only [go_sem,simprocAttr,hm])))|((first|((with_reducible apply wL);exact rfl)|((with_reducible apply wM);exact rfl));all_goals (try ((with_reducible intro h);first|(exact absurd h (by decide))|(try simp only [go_sem,simprocAttr,hm] at h))))|omega|((first|refine aa hX hC hP (cU g hl) rfl rfl rfl (by simp only [go_sem,simprocAttr,hm]) rfl ?_);try simp only [go_sem,simprocAttr,hm])|(intro h))
 all_goals simp [gu,gP,hm]
theorem tD (g:Gr) (hl:g.es.length≤9223372036854775807):Spec Tryz.prog 99 (Args [eG g]) [] (.tup [eN (gu g).1,eN (gu g).2.1, .d (sI (gu g).2.2)]) []:=by
 cases hm:aP g with
 |false=>exact tC g hl hm
 |true=>exact uj g (by have:=aT hm;omega)
theorem aX (g:Gr) (hl:g.es.length≤9223372036854775807):Spec Tryz.prog 72 (Args [eG g]) [] (eB (decide ((bJ g).1=0))) []:=by
 rw [H7]
 (refine Spec.intro (C:=T.cfg [] []) (rs:= [.t 2]) (T.aj _ _) Tryz.func72 rfl rfl Tryz.ntmps72 Tryz.results72 (by simp [AObj.isNest]) (by simp [AObj.isNest]) (by kernel_rfl) ?_;intro X hX hP hC aD aF vals hA;refine ⟨_,by simp,hA, ?_⟩;have af:X.P.follows .mixedOrders=true:=(by rw [hP];exact T.mixed);clear aD aF)
 repeat' (first|((first|((with_reducible (first|apply oA|apply oB));exact rfl;intro K hK)|(refine hK _ ?_;clear hK K)|((with_reducible (first|apply oG|apply oH));iterate 3 exact rfl)|((with_reducible apply oI);(iterate 2 exact rfl);intro K hK)|(with_reducible (first|apply wI|apply wJ|apply wK)));try simp only [go_sem,simprocAttr])|(with_reducible (first|apply oC|apply oJ|exact oK|apply wA|apply wB|apply wC hX hC|apply wD hX hC|apply wE hX hC af|apply wF hX hC af|apply wG|apply wH|apply And.intro))|((with_reducible refine oD ?_ ?_);kernel_rfl)|((with_reducible (first|apply oE|apply oF));(iterate 3 exact rfl);all_goals (intro h;first|(exact absurd h (by decide))|((try simp only [go_sem,simprocAttr] at h);(try with_reducible intro K hK);simp only [go_sem,simprocAttr])))|((first|((with_reducible apply wL);exact rfl)|((with_reducible apply wM);exact rfl));all_goals (try ((with_reducible intro h);first|(exact absurd h (by decide))|(try simp only [go_sem,simprocAttr] at h))))|omega|((first|refine aa hX hC hP (tD g hl) rfl rfl rfl (by simp only [go_sem,simprocAttr]) rfl ?_);try simp only [go_sem,simprocAttr])|(intro h))
end Go.Ab
end
section
namespace Go.Ab
open Go.Proofs
attribute [local congr] ACall.congr
set_option maxRecDepth 10000
set_option maxHeartbeats 4000000
def g9:Gr:=⟨3, [(0,1),(0,2),(1,2)]⟩
def Qx:Fr:=⟨[], []⟩
def Qy:Fr:=⟨[(0,0,1),(1,0,2)], [0]⟩
def Qz:Fr:=⟨[(2,1,2),(1,0,2)], [0,1]⟩
def QA:Fr:=⟨[(-1,2, -1)], [0,1,2]⟩
end Go.Ab
end
section
namespace Go.Ab
open Go.Proofs
set_option maxRecDepth 10000
def B9 (g:Gr) (t:It):Prop:=(t.1= -1∧t.2.2= -1)∨(0≤t.1∧t.1<g.es.length∧t.2.1=(g.es.getD t.1.toNat (0,0)).1∧t.2.2=(g.es.getD t.1.toNat (0,0)).2)
structure ij (g:Gr) (f:Fr):Prop where
 it:∀t∈f.row,B9 g t
 pl:f.pl.Nodup
 GP:∀x∈f.pl,0≤x∧x<g.n
theorem jY {row:List It} {x:Int} :∀k:Nat,(cL row x k).2.2=fQ row x k
 |0=>rfl
 |k+1=>by
  rw [iV,eL]
  split
  ·show (cL row x k).2.2+1=_
   rw [jY k]
  ·exact jY k
theorem qc {row:List It} {x:Int} {j:Nat} :∀d:Nat,fQ row x j≤fQ row x (j+d)
 |0=>Int.le_refl _
 |d+1=>by
  have:=qc (row:=row) (x:=x) (j:=j) d
  rw [← Nat.add_assoc,eL]
  split<;>omega
theorem jZ {row:List It} {x:Int} :∀ {k:Nat},(∀j,j<k→(row.getD j (0,0,0)).2.2≠x)→fQ row x k=0
 |0,_=>rfl
 |k+1,h=>by
  rw [eL,if_neg (h k (by omega))]
  exact jZ fun j hj=>h j (by omega)
theorem qd {row:List It} {x:Int} {b:Nat} :∀ {d:Nat},(∀j,b≤j→j<b+d→(row.getD j (0,0,0)).2.2≠x)→fQ row x (b+d)=fQ row x b
 |0,_=>rfl
 |d+1,h=>by
  rw [← Nat.add_assoc,eL,if_neg (h (b+d) (by omega) (by omega))]
  exact qd fun j h1 h2=>h j h1 (by omega)
theorem fM {f:Edge→Int} {g:Gr} {x:Int} (h0:0≤x) (h1:x<g.n):bu f g x=aG f g.es g.es.length x:=if_pos ⟨h0,h1⟩
theorem qe {g:Gr} {e:Int} (h0:0≤e) (h1:e<g.es.length):0<bA g (g.es.getD e.toNat (0,0)).2:=by
 refine List.length_pos_iff.2 fun h=> ?_
 have hm:e∈aG (·.2) g.es g.es.length (g.es.getD e.toNat (0,0)).2:=by
  simp only [aG,List.mem_map,List.mem_filter,List.mem_range,decide_eq_true_eq]
  exact ⟨e.toNat,⟨by omega,rfl⟩,by simp;omega⟩
 rw [h] at hm;cases hm
theorem uV {row:List It} {p:It→Bool} {a b:Nat} (hb:b≤row.length):((row.take b).drop a).any p=true↔∃j,a≤j∧j<b∧p (row.getD j (0,0,0))=true:=by
 rw [List.any_eq_true]
 constructor
 ·rintro ⟨t,ht,hp⟩
  obtain ⟨k,hk,rfl⟩:=List.mem_iff_getElem.1 ht
  simp only [List.length_drop,List.length_take] at hk
  refine ⟨a+k,by omega,by omega, ?_⟩
  rw [List.getD_eq_getElem?_getD,List.getElem?_eq_getElem (show a+k<row.length by omega)]
  simpa using hp
 ·rintro ⟨j,h1,h2,hp⟩
  rw [List.getD_eq_getElem?_getD,List.getElem?_eq_getElem (show j<row.length by omega)] at hp
  refine ⟨row[j], ?_,hp⟩
  refine List.mem_iff_getElem.2 ⟨j - a,by simp;omega, ?_⟩
  simp only [List.getElem_drop,List.getElem_take]
  congr 1;omega
theorem B9.head {g:Gr} (hm:aP g=true) {t:It} (h:B9 g t):(0≤t.1↔t.2.2≠ -1)∧ -1≤t.2.2:=by
 rcases h with ⟨h1,h2⟩|⟨h1,h2,_,h4⟩
 ·omega
 ·obtain ⟨_,h5,_⟩:=dS hm (k:=t.1.toNat) (by omega)
  omega
theorem o7 {g:Gr} (hm:aP g=true) {f:Fr} (hi:ij g f) (x:Int):gG g f x=aC g f x:=by
 by_cases hx:x<0∨g.n≤x∨x∈f.pl
 ·rw [gG,aC,if_pos hx,if_pos hx]
 rw [gG,aC,if_neg hx,if_neg hx]
 have hx0:0≤x∧x<g.n:=by
  constructor
  ·exact Int.not_lt.1 fun h=>hx (.inl h)
  ·exact Int.not_le.1 fun h=>hx (.inr (.inl h))
 have hmem:∀j,j<f.row.length→B9 g (f.row.getD j (0,0,0)):=fun j hj=>hi.it _ (aS hj)
 rw [fM hx0.1 hx0.2]
 have hN:(aG (fun e=>e.2) g.es g.es.length x).length=bA g x:=rfl
 rw [hN]
 have Ib:(aZ f.row x).2.2=fQ f.row x f.row.length:=jY _
 by_cases h0:bA g x=0
 ·rw [if_pos h0,h0,decide_eq_true rfl,Bool.true_or,Bool.and_true,decide_eq_true_eq,Ib,jZ]
  ·rfl
  ·intro j hj he
   rcases hmem j hj with ⟨_,h2⟩|⟨h1,h2,_,h4⟩
   ·omega
   ·have:=qe h1 h2
    rw [← h4,he] at this
    omega
 ·rw [if_neg h0,decide_eq_false h0,Bool.false_or,Ib]
  generalize bA g x=need at h0
  rcases cZ (row:=f.row) (x:=x) f.row.length with ⟨hs,hno⟩|⟨a,b,c,hs,hab,jG,hc0,dB,ha,hb,hlo,hhi⟩
  ·rw [jZ hno]
   have e1:decide ((0:Int)=(need:Int))=false:=decide_eq_false (by omega)
   rw [e1,Bool.false_and,Bool.and_false]
  ·have hs':aZ f.row x=((a:Int),(b:Int),(c:Int)):=hs
   have Fu:fQ f.row x f.row.length=c:=by rw [← Ib,hs']
   rw [hs',Fu]
   simp only [Int.toNat_natCast]
   rw [Bool.and_comm]
   by_cases Ji:¬(c:Int)=need
   ·rw [decide_eq_false Ji,Bool.and_false,Bool.and_false]
   rw [Decidable.not_not] at Ji
   rw [decide_eq_true Ji,Bool.and_true,Bool.and_true,qH]
   congr 1
   rw [Bool.eq_iff_iff,uV jG,List.any_eq_true]
   have ma:fQ f.row x a=0:=jZ hlo
   have QB:fQ f.row x (a+1)=1:=by rw [eL,if_pos ha,ma];rfl
   have mb:fQ f.row x b=need:=by
    have h:=qd (row:=f.row) (x:=x) (b:=b) (d:=f.row.length - b) fun j h1 h2=>hhi j h1 (by omega)
    rw [show b+(f.row.length - b)=f.row.length by omega,Fu] at h
    omega
   have QC:fQ f.row x (b - 1)+1=need:=by
    have h:=eL (row:=f.row) (x:=x) (k:=b - 1)
    rw [if_pos hb,show b - 1+1=b by omega,mb] at h
    omega
   constructor
   ·rintro ⟨j,h1,h2,hp⟩
    simp only [kH,Bool.and_eq_true,decide_eq_true_eq] at hp
    have hja:j≠a:=fun e=>hp.1 (by rw [e];exact ha)
    have hjb:j≠b - 1:=fun e=>hp.1 (by rw [e];exact hb)
    have g1:=qc (row:=f.row) (x:=x) (j:=a+1) (j - (a+1))
    rw [show a+1+(j - (a+1))=j by omega] at g1
    have g2:=qc (row:=f.row) (x:=x) (j:=j) (b - 1 - j)
    rw [show j+(b - 1 - j)=b - 1 by omega] at g2
    exact ⟨j,List.mem_range.2 (by omega),mK.2 ⟨⟨hp.1,((hmem j (by omega)).head hm).1.2 hp.2⟩,by omega,by omega⟩⟩
   ·rintro ⟨j,hj,hl⟩
    have hj:=List.mem_range.1 hj
    obtain ⟨⟨h1,h2⟩,h3,h4⟩:=mK.1 hl
    refine ⟨j, ?_, ?_, ?_⟩
    ·refine Nat.not_lt.1 fun h=> ?_
     have:=jZ (row:=f.row) (x:=x) (k:=j) fun i hi=>hlo i (by omega)
     omega
    ·refine Nat.not_le.1 fun h=> ?_
     have:=qd (row:=f.row) (x:=x) (b:=b) (d:=j - b) fun i h1 h2=>hhi i h1 (by omega)
     rw [show b+(j - b)=j by omega] at this
     omega
    ·simp only [kH,Bool.and_eq_true,decide_eq_true_eq]
     exact ⟨h1,((hmem j hj).head hm).1.1 h2⟩
theorem ry:∀ {ms os:List Int},ms.Nodup→(∀i∈ms,i∈os)→os.length=ms.length→os.Perm ms
 | [],os,_,_,hl=>by
   have h:os= []:=List.eq_nil_of_length_eq_zero (by simpa using hl)
   rw [h]
 |m::ms,os,hn,hs,hl=>by
  rw [List.nodup_cons] at hn
  have hm:=hs m (List.mem_cons_self ..)
  refine (List.perm_cons_erase hm).trans (List.Perm.cons m (ry hn.2 (fun j hj=> ?_) ?_))
  ·have:j≠m:=fun e=>hn.1 (e ▸ hj)
   exact (List.mem_erase_of_ne this).2 (hs j (List.mem_cons_of_mem _ hj))
  ·rw [List.length_erase_of_mem hm,hl];simp
theorem qI {g:Gr} {x:Int} :(bn g x).Pairwise (· ≤ ·):=by
 unfold bn aG
 refine List.Pairwise.map _ (fun a b (h:a<b)=> ?_) (List.Pairwise.filter _ List.pairwise_lt_range)
 show (a:Int)≤b
 omega
theorem tE {l m:List Int} (h:l.Perm m) (hm:m.Pairwise (· ≤ ·)):ig l=m:=by
 have h1:(ig l).Pairwise (· ≤ ·):=by
  have:=List.pairwise_mergeSort (le:=fun a b:Int=>decide (a≤b)) (by simp;omega) (by simp;omega) l
  simpa [ig] using this
 have h2:(ig l).Perm m:=(by unfold ig;exact (List.mergeSort_perm l _).trans h)
 exact h2.eq_of_pairwise (fun a b _ _ h1 h2=>Int.le_antisymm h1 h2) h1 hm
theorem aW {g:Gr} {f:Fr} {x:Int} (h:aC g f x=true):0≤x∧x<g.n∧x∉f.pl:=by
 unfold aC at h
 by_cases hx:x<0∨g.n≤x∨x∈f.pl
 ·rw [if_pos hx] at h;cases h
 ·exact ⟨Int.not_lt.1 fun h=>hx (.inl h),Int.not_le.1 fun h=>hx (.inr (.inl h)),fun h=>hx (.inr (.inr h))⟩
theorem Ec {g:Gr} (hm:aP g=true) {f:Fr} (hi:ij g f) (x:Int) (outs:List Int):jA g f x outs=c7 g f x outs:=by
 rw [jA,c7,o7 hm hi]
 cases hR:aC g f x with
 |false=>rw [if_pos rfl,if_pos rfl]
 |true=>
  obtain ⟨h0,h1,h2⟩:=aW hR
  have ht:¬(true=false):=by simp
  rw [if_neg ht,if_neg ht,fM h0 h1]
  show (if ig outs≠bn g x then _ else az g f x outs)=_
  by_cases hs:ig outs=bn g x
  ·rw [if_neg (fun h=>h hs),if_neg]
   rintro (h|⟨i,h3,h4⟩)
   ·exact h (by rw [← hs,fk])
   ·exact h4 (yq.1 (hs ▸ h3))
  ·rw [if_pos hs,if_pos]
   refine Decidable.byContradiction fun h=>hs ?_
   have hl:outs.length=(bn g x).length:=Decidable.byContradiction fun e=>h (.inl e)
   exact tE (ry bX (fun i hi=>Decidable.byContradiction fun e=>h (.inr ⟨i,hi,e⟩)) hl) qI
theorem Ee {g:Gr} {x:Int} {outs:List Int} (ho:∀i∈outs,i∈bn g x):∀t∈aO g x outs,B9 g t:=by
 intro t ht
 unfold aO at ht
 split at ht
 ·rw [List.mem_singleton] at ht
  rw [ht];exact .inl ⟨rfl,rfl⟩
 ·obtain ⟨i,hi,rfl⟩:=List.mem_map.1 ht
  obtain ⟨⟨h1,h2⟩,h3⟩:=dR (ho i hi)
  exact .inr ⟨h1,h2,h3.symm,rfl⟩
theorem Ef {g:Gr} {f:Fr} (hi:ij g f) {x:Int} (hR:aC g f x=true) {outs:List Int} (ho:∀i∈outs,i∈bn g x):ij g (az g f x outs).2:=by
 obtain ⟨h0,h1,h2⟩:=aW hR
 refine ⟨fun t ht=> ?_, ?_,fun y hy=> ?_⟩
 ·simp only [az,List.mem_append] at ht
  rcases ht with (ht|ht)|ht
  ·exact hi.it t (List.mem_of_mem_take ht)
  ·exact Ee ho t ht
  ·exact hi.it t (List.mem_of_mem_drop ht)
 ·show (f.pl++ [x]).Nodup
  rw [List.nodup_append]
  refine ⟨hi.pl,by simp,fun a ha b hb e=>h2 ?_⟩
  rw [List.mem_singleton] at hb
  rw [← hb, ← e];exact ha
 ·have hy:y∈f.pl++ [x]:=hy
  rcases List.mem_append.1 hy with h|h
  ·exact hi.GP y h
  ·rw [List.mem_singleton] at h
   rw [h];exact ⟨h0,h1⟩
end Go.Ab
end
section
namespace Go.Ab
open Go.Proofs
set_option maxRecDepth 10000
def lz (x:Int) (t:It):Bool:=decide (t.2.2=x)
structure Ca (x:Int) (X:List It):Prop where
 fst:∃p X',X=p::X'∧p.2.2=x
 Fp:∃X' q,X=X'++ [q]∧q.2.2=x
 al:∀t∈X,t.2.2=x∨t.2.2= -1
def fV (x:Int) (l:List It):Prop:=∀t∈l,t.2.2≠x
theorem fV.app {x:Int} {l m:List It} (h:fV x l) (h':fV x m):fV x (l++m):=fun t ht=>(List.mem_append.1 ht).elim (h t) (h' t)
theorem fV.left {x:Int} {l m:List It} (h:fV x (l++m)):fV x l:=fun t ht=>h t (List.mem_append.2 (.inl ht))
theorem fV.right {x:Int} {l m:List It} (h:fV x (l++m)):fV x m:=fun t ht=>h t (List.mem_append.2 (.inr ht))
theorem Ca.NG {x y:Int} {X:List It} (h:Ca x X) (hxy:x≠y) (hy:0≤y):fV y X:=fun t ht e=>by
 rcases h.al t ht with h1|h1<;>omega
theorem kL {row:List It} {x:Int} :∀ {k:Nat},k≤row.length→fQ row x k=((row.take k).countP (lz x):Nat)
 |0,_=>by simp [fQ]
 |k+1,h=>by
  rw [eL,kL (k:=k) (by omega),List.take_add_one,List.getElem?_eq_getElem (show k<row.length by omega),List.countP_append]
  simp only [Option.toList,List.countP_cons,List.countP_nil,lz,decide_eq_true_eq,List.getD_eq_getElem?_getD,List.getElem?_eq_getElem (show k<row.length by omega),Option.getD_some]
  split<;>simp
theorem Cb {A X C:List It} {p:It} {X':List It} (h:X=p::X'):(A++X++C).getD A.length (0,0,0)=p:=by
 subst h;simp [List.getD_eq_getElem?_getD]
theorem Cc {A X C:List It} {q:It} {X':List It} (h:X=X'++ [q]):(A++X++C).getD (A.length+X.length - 1) (0,0,0)=q:=by
 subst h
 have e:A.length+(X'++ [q]).length - 1=(A++X').length:=by simp
 rw [e,show A++(X'++ [q])++C=(A++X')++([q]++C) by simp]
 simp [List.getD_eq_getElem?_getD]
theorem Cd {A L:List It} {j:Nat} (h:j<A.length):(A++L).getD j (0,0,0)∈A:=by
 rw [List.getD_eq_getElem?_getD,List.getElem?_append_left h,List.getElem?_eq_getElem h]
 exact List.getElem_mem h
theorem Ce {A L:List It} {j:Nat} (h:A.length≤j) (h':j<(A++L).length):(A++L).getD j (0,0,0)∈L:=by
 rw [List.length_append] at h'
 rw [List.getD_eq_getElem?_getD,List.getElem?_append_right h,List.getElem?_eq_getElem (by omega)]
 exact List.getElem_mem _
theorem AH {A X C:List It} {x:Int} (hA:fV x A) (hC:fV x C) (hX:Ca x X):
 (aZ (A++X++C) x).1=(A.length:Int)∧(aZ (A++X++C) x).2.1=((A.length+X.length:Nat):Int)∧(aZ (A++X++C) x).2.2=(X.countP (lz x):Nat):=by
 have Bz:(aZ (A++X++C) x).2.2=(X.countP (lz x):Nat):=by
  unfold aZ
  rw [jY,kL (Nat.le_refl _),List.take_length,List.countP_append,List.countP_append]
  have h1:A.countP (lz x)=0:=List.countP_eq_zero.2 fun t ht=>by simp [lz,hA t ht]
  have h2:C.countP (lz x)=0:=List.countP_eq_zero.2 fun t ht=>by simp [lz,hC t ht]
  rw [h1,h2];simp
 obtain ⟨p,X',e1,hp⟩:=hX.fst
 obtain ⟨QD,q,e2,hq⟩:=hX.Fp
 have g1:=Cb (A:=A) (C:=C) e1
 have g2:=Cc (A:=A) (C:=C) e2
 have Mt:0<X.length:=by rw [e1];simp
 have hlen:(A++X++C).length=A.length+X.length+C.length:=by simp;omega
 rcases cZ (row:=A++X++C) (x:=x) (A++X++C).length with ⟨_,hno⟩|⟨a,b,c,hs,hab,jG,hc0,dB,ha,hb,hlo,hhi⟩
 ·exact absurd (by rw [g1];exact hp) (hno A.length (by omega))
 ·have hs':aZ (A++X++C) x=((a:Int),(b:Int),(c:Int)):=hs
  refine ⟨?_, ?_,Bz⟩
  ·rw [hs']
   have h1:¬A.length<a:=fun h=>hlo _ h (by rw [g1];exact hp)
   have h2:¬a<A.length:=fun h=>hA _ (by have:=Cd (L:=X++C) h;rw [← List.append_assoc] at this;exact this) ha
   simp only;omega
  ·rw [hs']
   have h1:¬b<A.length+X.length:=fun h=>hhi (A.length+X.length - 1) (by omega) (by omega) (by rw [g2];exact hq)
   have h2:¬A.length+X.length<b:=fun h=>hC _ (Ce (A:=A++X) (j:=b - 1) (by simp;omega) (by omega)) hb
   simp only;omega
theorem tF {g:Gr} (hm:aP g=true) {f:Fr} (hi:ij g f) {A X C:List It} {x:Int} (h0:0≤x) (h1:x<g.n) (hp:x∉f.pl) (hr:f.row=A++X++C) (hA:fV x A) (hC:fV x C) (hX:Ca x X)
 (hc:X.countP (lz x)=bA g x):aC g f x=true:=by
 rw [← o7 hm hi,gG,if_neg (by rintro (h|h|h);omega;omega;exact hp h)]
 obtain ⟨e1,e2,e3⟩:=AH hA hC hX
 rw [hr,e1,e2,e3,fM h0 h1,Bool.and_eq_true,decide_eq_true_eq]
 refine ⟨by rw [hc];rfl, ?_⟩
 rw [Bool.or_eq_true];right
 simp only [qH,Int.toNat_natCast]
 rw [List.take_append_of_le_length (by simp),List.take_of_length_le (by simp),List.drop_left,Bool.not_eq_true',List.any_eq_false]
 intro t ht
 simp only [kH,Bool.and_eq_true,decide_eq_true_eq]
 rcases hX.al t ht with h|h<;>simp [h]
theorem c8 {g:Gr} (hm:aP g=true) {f:Fr} (hi:ij g f) {x:Int} (hR:aC g f x=true) (hn:bA g x≠0):
 ∃A X C,f.row=A++X++C∧fV x A∧fV x C∧Ca x X∧X.countP (lz x)=bA g x:=by
 obtain ⟨h0,h1,h2⟩:=aW hR
 rw [← o7 hm hi,gG,if_neg (by rintro (h|h|h);omega;omega;exact h2 h),fM h0 h1,Bool.and_eq_true,decide_eq_true_eq] at hR
 have hN:(aG (fun e=>e.2) g.es g.es.length x).length=bA g x:=rfl
 rw [hN,decide_eq_false hn,Bool.false_or] at hR
 obtain ⟨hc,hb⟩:=hR
 have Bz:(f.row.countP (lz x):Int)=bA g x:=by
  rw [← hc];unfold aZ
  rw [jY,kL (Nat.le_refl _),List.take_length]
 rcases cZ (row:=f.row) (x:=x) f.row.length with ⟨hs,hno⟩|⟨a,b,c,hs,hab,jG,hc0,dB,ha,hb',hlo,hhi⟩
 ·have:aZ f.row x=(-1,0,0):=hs
  rw [this] at hc
  exfalso;simp only at hc;omega
 ·have hs':aZ f.row x=((a:Int),(b:Int),(c:Int)):=hs
  rw [hs'] at hb
  simp only [Int.toNat_natCast] at hb
  have hA:fV x (f.row.take a):=fun t ht=>by
   obtain ⟨j,hj,rfl⟩:=List.mem_iff_getElem.1 ht
   simp only [List.length_take] at hj
   have:=hlo j (by omega)
   rw [List.getD_eq_getElem?_getD,List.getElem?_eq_getElem (show j<f.row.length by omega)] at this
   simpa using this
  have hC:fV x (f.row.drop b):=fun t ht=>by
   obtain ⟨j,hj,rfl⟩:=List.mem_iff_getElem.1 ht
   simp only [List.length_drop] at hj
   have:=hhi (b+j) (by omega) (by omega)
   rw [List.getD_eq_getElem?_getD,List.getElem?_eq_getElem (show b+j<f.row.length by omega)] at this
   simpa using this
  have hrow:f.row=f.row.take a++(f.row.take b).drop a++f.row.drop b:=by
   have e1:f.row.take a=(f.row.take b).take a:=by rw [List.take_take,Nat.min_eq_left (by omega)]
   rw [e1,List.take_append_drop,List.take_append_drop]
  refine ⟨f.row.take a,(f.row.take b).drop a,f.row.drop b,hrow,hA,hC,⟨?_, ?_, ?_⟩, ?_⟩
  ·refine ⟨f.row.getD a (0,0,0),(f.row.take b).drop (a+1), ?_,ha⟩
   rw [List.drop_eq_getElem_cons (by simp;omega)]
   congr 1
   rw [List.getD_eq_getElem?_getD,List.getElem?_eq_getElem (show a<f.row.length by omega)]
   simp
  ·refine ⟨(f.row.take (b - 1)).drop a,f.row.getD (b - 1) (0,0,0), ?_,hb'⟩
   have e:f.row.take b=f.row.take (b - 1)++ [f.row.getD (b - 1) (0,0,0)]:=by
    conv=>lhs;rw [show b=b - 1+1 by omega]
    rw [List.take_add_one,List.getD_eq_getElem?_getD,List.getElem?_eq_getElem (show b - 1<f.row.length by omega)]
    rfl
   rw [e,List.drop_append_of_le_length (by simp;omega)]
  ·intro t ht
   rw [qH,Bool.not_eq_true',List.any_eq_false] at hb
   have:=hb t ht
   simp only [kH,Bool.and_eq_true,decide_eq_true_eq,not_and] at this
   by_cases h:t.2.2=x
   ·exact .inl h
   ·exact .inr (Decidable.byContradiction fun h'=>this h h')
  ·have h1:(f.row.take a).countP (lz x)=0:=List.countP_eq_zero.2 fun t ht=>by simp [lz,hA t ht]
   have h2:(f.row.drop b).countP (lz x)=0:=List.countP_eq_zero.2 fun t ht=>by simp [lz,hC t ht]
   rw [hrow,List.countP_append,List.countP_append,h1,h2] at Bz
   omega
theorem kM {g:Gr} {f:Fr} {A X C:List It} {x:Int} (o:List Int) (hr:f.row=A++X++C) (hA:fV x A) (hC:fV x C) (hX:Ca x X):
 az g f x o=((X,0),⟨A++aO g x o++C,f.pl++ [x]⟩):=by
 obtain ⟨e1,e2,e3⟩:=AH hA hC hX
 have e4:max (A.length:Int) 0=(A.length:Int):=by omega
 unfold az
 rw [hr,e1,e2,e4,Int.toNat_natCast,Int.toNat_natCast]
 rw [List.take_append_of_le_length (show A.length+X.length≤(A++X).length by simp),List.take_of_length_le (show (A++X).length≤A.length+X.length by simp),List.drop_left]
 rw [show (A++X++C).take A.length=A by rw [List.append_assoc,List.take_left]]
 rw [show (A++X++C).drop (A.length+X.length)=C by rw [← List.length_append,List.drop_left]]
theorem j0 {g:Gr} {f:Fr} {x:Int} (o:List Int) (hr:fV x f.row):az g f x o=(([],0),⟨aO g x o++f.row,f.pl++ [x]⟩):=by
 have hs:aZ f.row x=(-1,0,0):=by
  rcases cZ (row:=f.row) (x:=x) f.row.length with ⟨hs,_⟩|⟨a,b,c,hs,hab,jG,hc0,dB,ha,hb',hlo,hhi⟩
  ·exact hs
  ·exact absurd ha (hr _ (aS (by omega)))
 have e4:max (-1:Int) 0=0:=by omega
 unfold az
 rw [hs]
 simp [e4]
end Go.Ab
end
section
namespace Go.Ab
open Go.Proofs
set_option maxRecDepth 10000
structure xu (g:Gr) (f:Fr):Prop extends ij g f where
 tail:∀t∈f.row,0≤t.1→t.2.1∈f.pl
 head:∀t∈f.row,0≤t.1→t.2.2∉f.pl
 once:f.row.Pairwise fun s t=>0≤s.1→s.1≠t.1
 low:∀i,i<g.es.length→hd g i∈f.pl→tl g i∈f.pl
 src:(f.pl= []∧f.row= [])∨∃s∈f.pl,bA g s=0
theorem AI (g:Gr):xu g ⟨[], []⟩:=
 {it:=by simp,pl:=by simp,GP:=by simp,tail:=by simp,head:=by simp,once:=by simp,low:=by simp,src:= .inl ⟨rfl,rfl⟩}
theorem wV {g:Gr} (hm:aP g=true) {f:Fr} (hi:xu g f) {x:Int} (hR:aC g f x=true) {i:Nat} (hl:i<g.es.length) (hx:hd g i=x):∃t∈f.row,t.1=i∧t.2.1=tl g i∧t.2.2=x:=by
 have hn:bA g x≠0:=by
  have:=qe (g:=g) (e:=(i:Int)) (by omega) (by omega)
  rw [Int.toNat_natCast,show (g.es.getD i (0,0)).2=x from hx] at this
  omega
 obtain ⟨A,X,C,hr,hA,hC,hX,hc⟩:=c8 hm hi.toij hR hn
 have hN:(aG (fun e=>e.2) g.es g.es.length x).length=bA g x:=rfl
 have hok:∀t∈f.row,t.2.2=x→0≤t.1∧t.1<g.es.length∧t.2.1=(g.es.getD t.1.toNat (0,0)).1∧t.2.2=(g.es.getD t.1.toNat (0,0)).2:=fun t ht he=>by
  rcases hi.it t ht with ⟨_,h2⟩|h
  ·have:=(aW hR).1;omega
  ·exact h
 have hmem:∀t∈X,t∈f.row:=fun t ht=>by rw [hr];simp [ht]
 have GQ:=ry (ms:=(X.filter (lz x)).map (·.1)) (os:=aG (fun e=>e.2) g.es g.es.length x)
 have key:∀i∈aG (fun e=>e.2) g.es g.es.length x,i∈(X.filter (lz x)).map (·.1):=by
  refine wU (ms:=(X.filter (lz x)).map (·.1)) (os:=aG (fun e=>e.2) g.es g.es.length x) ?_ ?_ ?_
  ·have h1:X.Pairwise fun s t=>0≤s.1→s.1≠t.1:=by
    have:=hi.once
    rw [hr,List.pairwise_append,List.pairwise_append] at this
    exact this.1.2.1
   have h2:=h1.filter (lz x)
   rw [List.Nodup,List.pairwise_map]
   refine h2.imp_of_mem fun {a b} ha hb h=>h ?_
   obtain ⟨ha1,ha2⟩:=List.mem_filter.1 ha
   exact (hok a (hmem a ha1) (by simpa [lz] using ha2)).1
  ·intro e he
   obtain ⟨t,ht,rfl⟩:=List.mem_map.1 he
   obtain ⟨ht1,ht2⟩:=List.mem_filter.1 ht
   have ht2:t.2.2=x:=by simpa [lz] using ht2
   obtain ⟨h1,h2,h3,h4⟩:=hok t (hmem t ht1) ht2
   simp only [aG,List.mem_map,List.mem_filter,List.mem_range,decide_eq_true_eq]
   exact ⟨t.1.toNat,⟨by omega,by rw [← h4];exact ht2⟩,by simp;omega⟩
  ·rw [hN, ← hc,List.length_map,List.countP_eq_length_filter]
 have hie:(i:Int)∈aG (fun e=>e.2) g.es g.es.length x:=by
  simp only [aG,List.mem_map,List.mem_filter,List.mem_range,decide_eq_true_eq]
  exact ⟨i,⟨hl,hx⟩,rfl⟩
 obtain ⟨t,ht,he⟩:=List.mem_map.1 (key _ hie)
 obtain ⟨ht1,ht2⟩:=List.mem_filter.1 ht
 have ht2:t.2.2=x:=by simpa [lz] using ht2
 obtain ⟨h1,h2,h3,h4⟩:=hok t (hmem t ht1) ht2
 refine ⟨t,hmem t ht1,he, ?_,ht2⟩
 rw [h3,he,Int.toNat_natCast];rfl
theorem nP {g:Gr} (hm:aP g=true) {f:Fr} (hi:ij g f) {x:Int} (h0:0≤x) (hn:bA g x=0):fV x f.row:=by
 intro t ht he
 rcases hi.it t ht with ⟨_,h2⟩|⟨h1,h2,_,h4⟩
 ·omega
 ·have:=qe h1 h2
  rw [← h4,he] at this
  omega
theorem iX {g:Gr} (hm:aP g=true) {f:Fr} (hi:ij g f) {x:Int} (hR:aC g f x=true):
 ∃A X C,f.row=A++X++C∧fV x A∧fV x C∧(∀t∈X,t.2.2=x∨t.2.2= -1)∧∀o,az g f x o=((X,0),⟨A++aO g x o++C,f.pl++ [x]⟩):=by
 by_cases hn:bA g x=0
 ·have h:=nP hm hi (aW hR).1 hn
  exact ⟨[], [],f.row,by simp,fun t ht=>(by cases ht),h,fun t ht=>(by cases ht),fun o=>by rw [j0 o h];simp⟩
 ·obtain ⟨A,X,C,hr,hA,hC,hX,_⟩:=c8 hm hi hR hn
  exact ⟨A,X,C,hr,hA,hC,hX.al,fun o=>kM o hr hA hC hX⟩
theorem j4 {g:Gr} {x i:Int} (h:i∈bn g x):∃k:Nat,i=k∧k<g.es.length∧tl g k=x:=by
 obtain ⟨⟨h1,h2⟩,h3⟩:=dR h
 exact ⟨i.toNat,by omega,by omega,h3⟩
theorem j5 {g:Gr} {x:Int} {o:List Int} (ho:∀i∈o,i∈bn g x) {t:It} (h:t∈aO g x o):(t.1= -1∧t.2.2= -1)∨∃k:Nat,k<g.es.length∧t.1=k∧t.2.1=x∧t.2.2=hd g k∧tl g k=x∧t.1∈o:=by
 unfold aO at h
 split at h
 ·rw [List.mem_singleton] at h
  rw [h];exact .inl ⟨rfl,rfl⟩
 ·obtain ⟨i,NH,rfl⟩:=List.mem_map.1 h
  obtain ⟨k,rfl,h1,h2⟩:=j4 (ho i NH)
  exact .inr ⟨k,h1,rfl,rfl,by simp [fL];rfl,h2,NH⟩
theorem qf {g:Gr} (hm:aP g=true) {f:Fr} (hi:xu g f) {x y:Int} (hx:x∉f.pl) (hR:aC g f y=true) {o:List Int} (ho:∀i∈o,i∈bn g x):fV y (aO g x o):=by
 intro t ht he
 rcases j5 ho ht with ⟨_,h⟩|⟨k,h1,h2,h3,h4,h5,_⟩
 ·have:=(aW hR).1;omega
 ·obtain ⟨s,hs,e1,e2,e3⟩:=wV hm hi hR h1 (by rw [← h4];exact he)
  refine hx ?_
  rw [← h5, ← e2]
  exact hi.tail s hs (by omega)
theorem j6 {g:Gr} (hm:aP g=true) {f:Fr} (hi:xu g f) {x:Int} (hR:aC g f x=true) {o:List Int} (ho:o.Perm (bn g x)):xu g (az g f x o).2:=by
 have Gd:∀i∈o,i∈bn g x:=fun i h=>ho.mem_iff.1 h
 have hx:=(aW hR).2.2
 have h0:=Ef hi.toij hR Gd
 obtain ⟨A,X,C,hr,hA,hC,hX,hs⟩:=iX hm hi.toij hR
 have eR:(az g f x o).2.pl=f.pl++ [x]:=rfl
 have hrow:(az g f x o).2.row=A++aO g x o++C:=by rw [hs o]
 have Mu:∀t∈A,t∈f.row:=fun t ht=>by rw [hr];simp [ht]
 have Mv:∀t∈C,t∈f.row:=fun t ht=>by rw [hr];simp [ht]
 have AJ:=qf hm hi hx hR Gd
 refine {toij:=h0,tail:= ?_,head:= ?_,once:= ?_,low:= ?_,src:= .inr ?_}
 ·intro t ht h1
  rw [eR]
  rw [hrow,List.mem_append,List.mem_append] at ht
  rcases ht with (ht|ht)|ht
  ·exact List.mem_append_left _ (hi.tail t (Mu t ht) h1)
  ·rcases j5 Gd ht with ⟨h,_⟩|⟨k,_,_,h3,_⟩
   ·omega
   ·rw [h3];simp
  ·exact List.mem_append_left _ (hi.tail t (Mv t ht) h1)
 ·intro t ht h1
  rw [eR,List.mem_append,List.mem_singleton]
  rw [hrow,List.mem_append,List.mem_append] at ht
  rcases ht with (ht|ht)|ht
  ·rintro (h|h)
   ·exact hi.head t (Mu t ht) h1 h
   ·exact hA t ht h
  ·rintro (h|h)
   ·rcases j5 Gd ht with ⟨h',_⟩|⟨k,hk,_,_,h4,h5,_⟩
    ·omega
    ·rw [h4] at h
     have:=hi.low k hk h
     rw [h5] at this;exact hx this
   ·exact AJ t ht h
  ·rintro (h|h)
   ·exact hi.head t (Mv t ht) h1 h
   ·exact hC t ht h
 ·have xD:=hi.once
  rw [hr,List.pairwise_append,List.pairwise_append] at xD
  obtain ⟨⟨O8,_,_⟩,O9,Mw⟩:=xD
  have old:∀s∈f.row,0≤s.1→∀t∈aO g x o,s.1≠t.1:=fun s hs h1 t ht e=>by
   rcases j5 Gd ht with ⟨h,_⟩|⟨k,hk,h2,h3,h4,h5,_⟩
   ·omega
   ·rcases hi.it s hs with ⟨h,_⟩|⟨_,_,h6,_⟩
    ·omega
    ·have:=hi.tail s hs h1
     rw [h6,e,h2,Int.toNat_natCast] at this
     exact hx (h5 ▸ this)
  rw [hrow,List.pairwise_append,List.pairwise_append]
  refine ⟨⟨O8, ?_,fun s hs t ht h1=>old s (Mu s hs) h1 t ht⟩,O9, ?_⟩
  ·unfold aO
   split
   ·simp
   ·refine List.pairwise_map.2 ((ho.nodup_iff.2 bX).imp fun {i j} (h:i≠j) _=> ?_)
    exact h
  ·intro s hs t ht h1
   rcases List.mem_append.1 hs with hs|hs
   ·exact Mw s (List.mem_append_left _ hs) t ht h1
   ·intro e
    exact old t (Mv t ht) (by omega) s hs e.symm
 ·intro i hl h
  rw [eR,List.mem_append,List.mem_singleton] at h ⊢
  left
  rcases h with h|h
  ·exact hi.low i hl h
  ·obtain ⟨t,ht,e1,e2,_⟩:=wV hm hi hR hl h
   rw [← e2]
   exact hi.tail t ht (by omega)
 ·rcases hi.src with ⟨h1,h2⟩|⟨s,hs,h⟩
  ·refine ⟨x,by rw [eR];simp, ?_⟩
   refine Decidable.byContradiction fun hn=> ?_
   obtain ⟨A,X,C,hr,_,_,hX,_⟩:=c8 hm hi.toij hR hn
   obtain ⟨p,X',e,_⟩:=hX.fst
   rw [h2,e] at hr
   simp at hr
  ·exact ⟨s,by rw [eR];simp [hs],h⟩
theorem apart {x y:Int} (hx:0≤x) (hy:0≤y) (hxy:x≠y) {A X C B Y D:List It} (h:A++X++C=B++Y++D) (hX:Ca x X) (hY:Ca y Y):
 (∃M,B=A++X++M∧C=M++Y++D)∨(∃M,A=B++Y++M∧D=M++X++C):=by
 obtain ⟨p,X',Pa,hp⟩:=hX.fst
 obtain ⟨q,Y',Pb,hq⟩:=hY.fst
 have nX:q∉X:=fun h=>hX.NG hxy hy q h hq
 have nY:p∉Y:=fun h=>hY.NG (Ne.symm hxy) hx p h hp
 rw [show B++Y++D=B++(Y++D) by simp,List.append_eq_append_iff] at h
 rcases h with ⟨es,h1,h2⟩|⟨cs,h1,h2⟩
 ·exact .inl ⟨es,h1,by rw [h2];simp⟩
 ·match cs,h1,h2 with
  | [],h1,h2=>exact .inl ⟨[],by simpa using h1.symm,by simpa using h2.symm⟩
  |c::cs,h1,h2=>
   have Pc:c=q:=by rw [Pb] at h2;simp at h2;exact h2.1.symm
   rw [List.append_eq_append_iff] at h1
   rcases h1 with ⟨es,h3,h4⟩|⟨ds,h3,h4⟩
   ·exfalso;refine nX ?_
    rw [h4, ← Pc];simp
   ·rw [h4,List.append_assoc,List.append_eq_append_iff] at h2
    rcases h2 with ⟨es,h5,h6⟩|⟨bs,h5,h6⟩
    ·exact .inr ⟨es,by rw [h3,h5];simp,by rw [h6];simp⟩
    ·match bs,h5,h6 with
     | [],h5,h6=>exact .inr ⟨[],by rw [h3,h5];simp,by simpa using h6.symm⟩
     |b::bs,h5,h6=>
      exfalso;refine nY ?_
      have Pd:b=p:=by rw [Pa] at h6;simp at h6;exact h6.1.symm
      rw [h5, ← Pd];simp
theorem yx {g:Gr} (hm:aP g=true) {f:Fr} (hi:xu g f) {x y:Int} (hxy:x≠y) (AK:aC g f x=true) (uW:aC g f y=true)
 {a b:List Int} (ha:a.Perm (bn g x)) (hb:b.Perm (bn g y)) {A X M Y D:List It} (hr:f.row=A++X++M++Y++D) (hX:Ca x X) (hY:Ca y Y)
 (cX:X.countP (lz x)=bA g x) (cY:Y.countP (lz y)=bA g y)
 (nA:fV x A) (nC:fV x (M++Y++D)) (nB:fV y (A++X++M)) (nD:fV y D):
 aC g (az g f x a).2 y=true∧aC g (az g f y b).2 x=true∧(az g (az g f x a).2 y b).2.row=(az g (az g f y b).2 x a).2.row∧
 (az g f x a).1=(az g (az g f y b).2 x a).1∧(az g f y b).1=(az g (az g f x a).2 y b).1:=by
 obtain ⟨x0,x1,x2⟩:=aW AK
 obtain ⟨y0,y1,y2⟩:=aW uW
 have i1:=(j6 hm hi AK ha).toij
 have i2:=(j6 hm hi uW hb).toij
 have ux:=qf hm hi x2 uW (fun i h=>ha.mem_iff.1 h)
 have uy:=qf hm hi y2 AK (fun i h=>hb.mem_iff.1 h)
 have r1:f.row=A++X++(M++Y++D):=by rw [hr];simp
 have r2:f.row=(A++X++M)++Y++D:=by rw [hr]
 have e1:=kM (g:=g) a r1 nA nC hX
 have e2:=kM (g:=g) b r2 nB nD hY
 rw [e1] at i1 ⊢;rw [e2] at i2 ⊢
 have r3:A++aO g x a++(M++Y++D)=(A++aO g x a++M)++Y++D:=by simp
 have r4:A++X++M++aO g y b++D=A++X++(M++aO g y b++D):=by simp
 have n3:fV y (A++aO g x a++M):=((nB.left.left).app ux).app nB.right
 have n4:fV x (M++aO g y b++D):=(nC.left.left.app uy).app nC.right
 have e3:=kM (g:=g) (f:=⟨A++aO g x a++(M++Y++D),f.pl++ [x]⟩) b r3 n3 nD hY
 have e4:=kM (g:=g) (f:=⟨A++X++M++aO g y b++D,f.pl++ [y]⟩) a r4 nA n4 hX
 refine ⟨tF hm i1 y0 y1 ?_ r3 n3 nD hY cY,tF hm i2 x0 x1 ?_ r4 nA n4 hX cX, ?_, ?_, ?_⟩
 ·simp [y2,Ne.symm hxy]
 ·simp [x2,hxy]
 ·simp only [e3,e4];simp
 ·simp only [e4]
 ·simp only [e3]
theorem Cf {g:Gr} (hm:aP g=true) {f:Fr} (hi:xu g f) {x y:Int} (hxy:x≠y) (AK:aC g f x=true) (uW:aC g f y=true)
 {a b:List Int} (ha:a.Perm (bn g x)) (hb:b.Perm (bn g y)) (nx:bA g x≠0) (ny:bA g y≠0):
 aC g (az g f x a).2 y=true∧aC g (az g f y b).2 x=true∧(az g (az g f x a).2 y b).2.row=(az g (az g f y b).2 x a).2.row∧
 (az g f x a).1=(az g (az g f y b).2 x a).1∧(az g f y b).1=(az g (az g f x a).2 y b).1:=by
 obtain ⟨A,X,C,hr,hA,hC,hX,cX⟩:=c8 hm hi.toij AK nx
 obtain ⟨B,Y,D,hr',hB,hD,hY,cY⟩:=c8 hm hi.toij uW ny
 rcases apart (aW AK).1 (aW uW).1 hxy (hr.symm.trans hr') hX hY with ⟨M,rfl,rfl⟩|⟨M,rfl,rfl⟩
 ·exact yx hm hi hxy AK uW ha hb (by rw [hr];simp) hX hY cX cY hA hC hB hD
 ·obtain ⟨h1,h2,h3,h4,h5⟩:=yx hm hi (Ne.symm hxy) uW AK hb ha (by rw [hr'];simp) hY hX cY cX hB hD hA hC
  exact ⟨h2,h1,h3.symm,h5,h4⟩
theorem mL {g:Gr} {y:Int} :y∈bS (·.2) g↔(0≤y∧y<g.n)∧bA g y=0:=by
 simp only [bS,iN,List.mem_map,List.mem_filter,List.mem_range,decide_eq_true_eq]
 have he:∀x:Nat,x<g.n.toNat→(((de (·.2) g).getD x []).length=bA g (x:Int)):=by
  intro x hx
  have e:(de (·.2) g).getD x []=aG (·.2) g.es g.es.length (x:Int):=by
   simp [de,List.getD_eq_getElem?_getD,List.getElem?_range hx,jX]
  rw [e];rfl
 constructor
 ·rintro ⟨x,⟨hx,h0⟩,rfl⟩
  refine ⟨by simp;omega,by rw [he x hx] at h0;exact h0⟩
 ·rintro ⟨⟨h1,h2⟩,h3⟩
  have e:((y.toNat:Nat):Int)=y:=by omega
  exact ⟨y.toNat,⟨by omega,by rw [he _ (by omega),e];exact h3⟩,e⟩
theorem mM {g:Gr} (hc:(bJ g).1=0) {x y:Int} (hx:0≤x∧x<g.n) (hy:0≤y∧y<g.n) (nx:bA g x=0) (ny:bA g y=0):x=y:=by
 have h1:(bS (·.2) g).length≤1:=by
  unfold bJ gP at hc
  refine Nat.not_lt.1 fun h=> ?_
  split at hc
  ·cases hc
  split at hc
  ·cases hc
  split at hc
  ·cases hc
  split at hc
  ·cases hc
  cases hc
 have h2:=mL.2 ⟨hx,nx⟩
 have h3:=mL.2 ⟨hy,ny⟩
 match hb:bS (·.2) g with
 | []=>rw [hb] at h2;cases h2
 | [z]=>rw [hb,List.mem_singleton] at h2 h3;rw [h2,h3]
 |_::_::_=>rw [hb] at h1;simp at h1
theorem aA {g:Gr} (hc:(bJ g).1=0):aP g=true:=by
 unfold bJ gP at hc
 split at hc
 ·cases hc
 ·rename_i h;simpa using h
theorem yy {g:Gr} (hc:(bJ g).1=0) {f:Fr} (hi:xu g f) {x y:Int} (hxy:x≠y) (AK:aC g f x=true) (uW:aC g f y=true):bA g x≠0:=by
 intro nx
 have hm:=aA hc
 obtain ⟨x0,x1,x2⟩:=aW AK
 obtain ⟨y0,y1,y2⟩:=aW uW
 rcases hi.src with ⟨h1,h2⟩|⟨s,hs,h⟩
 ·have ny:bA g y≠0:=fun ny=>hxy (mM hc ⟨x0,x1⟩ ⟨y0,y1⟩ nx ny)
  obtain ⟨A,X,C,hr,_,_,hX,_⟩:=c8 hm hi.toij uW ny
  obtain ⟨p,X',e,_⟩:=hX.fst
  rw [h2,e] at hr
  simp at hr
 ·exact x2 (mM hc (hi.GP s hs) ⟨x0,x1⟩ h nx ▸ hs)
theorem Cg {g:Gr} (hc:(bJ g).1=0) {f:Fr} (hi:xu g f) {x y:Int} (hxy:x≠y) (AK:aC g f x=true) (uW:aC g f y=true)
 {a b:List Int} (ha:a.Perm (bn g x)) (hb:b.Perm (bn g y)):
 aC g (az g f x a).2 y=true∧aC g (az g f y b).2 x=true∧(az g (az g f x a).2 y b).2.row=(az g (az g f y b).2 x a).2.row∧
 (az g f x a).1=(az g (az g f y b).2 x a).1∧(az g f y b).1=(az g (az g f x a).2 y b).1:=
 Cf (aA hc) hi hxy AK uW ha hb (yy hc hi hxy AK uW) (yy hc hi (Ne.symm hxy) uW AK)
end Go.Ab
end
section
namespace Go.Ab
open Go.Proofs
attribute [local congr] ACall.congr
set_option maxRecDepth 10000
set_option maxHeartbeats 4000000
def AL (row:List It) (a b:Int):Nat→Int × Int
 |0=>(-1,0)
 |k+1=>if ((row.getD k (0,0,0)).2.2=a∨(row.getD k (0,0,0)).2.2=b)∧(row.getD k (0,0,0)).2.2≠(AL row a b k).1 then ((row.getD k (0,0,0)).2.2,(AL row a b k).2+1) else AL row a b k
end Go.Ab
end
section
namespace Go.Ab
open Go.Proofs
attribute [local congr] ACall.congr
set_option maxRecDepth 10000
set_option maxHeartbeats 4000000
def IT (row:List It) (i:Nat):Int:=(row.getD i (0,0,0)).2.2
def Mx (row:List It) (i j:Nat):Bool:=decide (IT row i≠ -1)&&decide (IT row j≠ -1)&&decide (IT row i≠IT row j)&&decide (4≤(AL row (IT row i) (IT row j) row.length).2)
def NI (row:List It):Bool:=(List.range row.length).any fun i=>(List.range row.length).any (Mx row i)
end Go.Ab
end
section
namespace Go.Ab
open Go.Proofs
attribute [local congr] ACall.congr
set_option maxRecDepth 10000
set_option maxHeartbeats 8000000
def T4 (row:List It) (a b c d:Nat):Prop:=0≤(row.getD a (0,0,0)).2.2∧0≤(row.getD b (0,0,0)).2.2∧(row.getD a (0,0,0)).2.2≠(row.getD b (0,0,0)).2.2∧(row.getD a (0,0,0)).2.2=(row.getD c (0,0,0)).2.2∧(row.getD b (0,0,0)).2.2=(row.getD d (0,0,0)).2.2
def Pe (row:List It):Prop:=∃a b c d,a<b∧b<c∧c<d∧d<row.length∧T4 row a b c d
end Go.Ab
end
section
namespace Go.Ab
open Go.Proofs
set_option maxRecDepth 10000
theorem yz {g:Gr} {f f':Fr} (hr:f.row=f'.row) (hp:f.pl.Perm f'.pl) (x:Int):aC g f x=aC g f' x:=by
 unfold aC
 rw [hr]
 by_cases h:x<0∨g.n≤x∨x∈f.pl
 ·rw [if_pos h,if_pos (by rw [← hp.mem_iff];exact h)]
 ·have h':¬(x<0∨g.n≤x∨x∈f'.pl):=by rw [← hp.mem_iff];exact h
  rw [if_neg h,if_neg h']
theorem nQ:∀ {l m:List Int},l.Nodup→(∀i∈l,i∈m)→l.length≤m.length
 | [],_,_,_=>by simp
 |a::l,m,hn,hs=>by
  rw [List.nodup_cons] at hn
  have ha:=hs a (List.mem_cons_self ..)
  have:=nQ hn.2 (m:=m.erase a) fun i hi=>(List.mem_erase_of_ne (fun e:i=a=>hn.1 (e ▸ hi))).2 (hs i (List.mem_cons_of_mem _ hi))
  rw [List.length_erase_of_mem ha] at this
  have:=List.length_pos_of_mem ha
  rw [List.length_cons];omega
theorem j7 {g:Gr} {f:Fr} (hi:ij g f) (hf:(f.pl.length:Int)=g.n) {x:Int} (hx:0≤x∧x<g.n):x∈f.pl:=by
 refine Decidable.byContradiction fun h=> ?_
 have h1:(x::f.pl).Nodup:=List.nodup_cons.2 ⟨h,hi.pl⟩
 have h2:((List.range g.n.toNat).map Int.ofNat).length=g.n.toNat:=by simp
 have h3:=nQ h1 (m:=(List.range g.n.toNat).map Int.ofNat) (fun y hy=>by
  rw [List.mem_map]
  have:0≤y∧y<g.n:=by
   rcases List.mem_cons.1 hy with h|h
   ·rw [h];exact hx
   ·exact hi.GP y h
  exact ⟨y.toNat,List.mem_range.2 (by omega),by simp;omega⟩)
 rw [h2,List.length_cons] at h3
 omega
def Tg (a b:Int) (row:List It):Prop:=∃l:List It,l.Sublist row∧l.map (fun t=>t.2.2)= [a,b,a,b]
def Eg (a b:Int) (t:It):Bool:=decide (t.2.2=a)||decide (t.2.2=b)
theorem Tg.My {a b:Int} {row:List It} :Tg a b row↔Tg a b (row.filter (Eg a b)):=by
 constructor
 ·rintro ⟨l,h,e⟩
  refine ⟨l, ?_,e⟩
  have h1:=h.filter (Eg a b)
  rw [List.filter_eq_self.2] at h1
  ·exact h1
  ·intro t ht
   have:t.2.2∈l.map (fun t=>t.2.2):=List.mem_map.2 ⟨t,ht,rfl⟩
   rw [e] at this
   simp only [Eg,Bool.or_eq_true,decide_eq_true_eq]
   simp only [List.mem_cons,List.not_mem_nil,or_false] at this
   omega
 ·rintro ⟨l,h,e⟩
  exact ⟨l,h.trans List.filter_sublist,e⟩
theorem Tg.keep {a b x:Int} (ha:0≤a) (hb:0≤b) (Fm:a≠x) (oO:b≠x) {A X C u:List It} (hX:∀t∈X,t.2.2=x∨t.2.2= -1) (h:Tg a b (A++X++C)):Tg a b (A++u++C):=by
 rw [Tg.My] at h ⊢
 obtain ⟨l,h,e⟩:=h
 refine ⟨l,h.trans ?_,e⟩
 rw [List.filter_append,List.filter_append,List.filter_append,List.filter_append]
 have:X.filter (Eg a b)= []:=List.filter_eq_nil_iff.2 fun t ht=>by
  simp only [Eg,Bool.or_eq_true,decide_eq_true_eq]
  rcases hX t ht with h|h<;>omega
 rw [this,List.append_nil]
 exact List.Sublist.append_right (List.sublist_append_left _ _) _
theorem Tg.not {a b x:Int} (hab:a≠b) (hb0:0≤b) (ha0:0≤a) (hx:x=a∨x=b) {A X C:List It} (hA:fV x A) (hC:fV x C) (hX:∀t∈X,t.2.2=x∨t.2.2= -1):¬Tg a b (A++X++C):=by
 rintro ⟨l,h,e⟩
 rw [List.append_assoc,List.sublist_append_iff] at h
 obtain ⟨l1,l',rfl,h1,h'⟩:=h
 rw [List.sublist_append_iff] at h'
 obtain ⟨l2,l3,rfl,h2,h3⟩:=h'
 have k1:∀t∈l1,t.2.2≠x:=fun t ht=>hA t (h1.subset ht)
 have k2:∀t∈l2,t.2.2=x∨t.2.2= -1:=fun t ht=>hX t (h2.subset ht)
 have k3:∀t∈l3,t.2.2≠x:=fun t ht=>hC t (h3.subset ht)
 clear h1 h2 h3
 match l1,k1,e with
 |t1::t2::_,k1,e=>
  simp only [List.cons_append,List.map_cons,List.cons.injEq] at e
  rcases hx with h|h
  ·exact k1 t1 (by simp) (by omega)
  ·exact k1 t2 (by simp) (by omega)
 | [t1],k1,e=>
   simp only [List.cons_append,List.nil_append,List.map_cons,List.cons.injEq] at e
   rcases hx with h|h
   ·exact k1 t1 (by simp) (by omega)
   ·match l2,k2,e with
    | [],_,e=>
      match l3,k3,e with
      | [s1,s2,s3],k3,e=>
        simp only [List.nil_append,List.map_cons,List.map_nil,List.cons.injEq,and_true] at e
        exact k3 s1 (by simp) (by omega)
      | [],_,e=>simp at e
      | [_],_,e=>simp at e
      | [_,_],_,e=>simp at e
      |_::_::_::_::_,_,e=>simp at e
    |s1::s2::_,k2,e=>
     simp only [List.cons_append,List.map_cons,List.cons.injEq] at e
     rcases k2 s2 (by simp) with h|h<;>omega
    | [s1],k2,e=>
      match l3,k3,e with
      | [u1,u2],k3,e=>
        simp only [List.cons_append,List.nil_append,List.map_cons,List.map_nil,List.cons.injEq,and_true] at e
        exact k3 u2 (by simp) (by omega)
      | [],_,e=>simp at e
      | [_],_,e=>simp at e
      |_::_::_::_,_,e=>simp at e
 | [],_,e=>
   simp only [List.nil_append] at e
   match l2,k2,e with
   | [],_,e=>
     match l3,k3,e with
     | [],_,e=>simp at e
     | [_],_,e=>simp at e
     |s1::s2::_,k3,e=>
      simp only [List.nil_append,List.map_cons,List.cons.injEq] at e
      rcases hx with h|h
      ·exact k3 s1 (by simp) (by omega)
      ·exact k3 s2 (by simp) (by omega)
   |s1::s2::_,k2,e=>
    simp only [List.cons_append,List.map_cons,List.cons.injEq] at e
    have q1:=k2 s1 (by simp)
    have q2:=k2 s2 (by simp)
    omega
   | [s1],k2,e=>
     match l3,k3,e with
     | [],_,e=>simp at e
     | [_],_,e=>simp at e
     | [_,_],_,e=>simp at e
     |u1::u2::u3::_,k3,e=>
      simp only [List.cons_append,List.nil_append,List.map_cons,List.cons.injEq] at e
      have q1:=k2 s1 (by simp)
      exact k3 u2 (by simp) (by omega)
end Go.Ab
end
section
namespace Go.Ab
open Go.Proofs
set_option maxRecDepth 10000
theorem Ch {row:List It} {k:Nat} (h:k<row.length):row.take (k+1)=row.take k++ [row.getD k (0,0,0)]:=by
 rw [List.take_add_one,List.getD_eq_getElem?_getD,List.getElem?_eq_getElem h];rfl
theorem Eh {row:List It} {i j:Nat} (h:i≤j):(row.take i).Sublist (row.take j):=by
 rw [show row.take i=(row.take j).take i by rw [List.take_take,Nat.min_eq_left h]]
 exact List.take_sublist _ _
theorem tG {row l:List It} {i j:Nat} (h:l.Sublist (row.take i)) (hij:i≤j) (hj:j<row.length):(l++ [row.getD j (0,0,0)]).Sublist (row.take (j+1)):=by
 rw [Ch hj]
 exact List.Sublist.append (h.trans (Eh hij)) (List.Sublist.refl _)
def Mz (a b:Int):List It→Prop
 | []=>True
 | [t]=>t.2.2=a∨t.2.2=b
 |s::t::l=>(s.2.2=a∨s.2.2=b)∧s.2.2≠t.2.2∧Mz a b (t::l)
end Go.Ab
end
section
namespace Go.Ab
open Go.Proofs
attribute [local congr] ACall.congr
set_option maxRecDepth 10000
end Go.Ab
end
section
namespace Go.Ab
open Go.Proofs
attribute [local congr] ACall.congr
set_option maxRecDepth 10000
def MA (g:Gr) (out:List Int) (x:Nat) (i:Nat):Bool:=(List.range i).all fun j=> !decide (hd g j=(x:Int))||decide (tl g j∈out)
def Pf (g:Gr) (out:List Int) (k:Nat) (f:Bool):Prop:=k≤g.n.toNat∧(if f then 0<k∧wt g out (k - 1)=0∧∀j,j<k - 1→wt g out j≠0 else ∀j,j<k→wt g out j≠0)
def Pg (out:List Int) (k:Nat) (f:Bool):List Int:=if f then out++ [((k - 1:Nat):Int)] else out
end Go.Ab
end
section
namespace Go.Ab
open Go.Proofs
attribute [local congr] ACall.congr
set_option maxRecDepth 10000
theorem AM {g:Gr} (hm:aP g=true):(bW g).length≤64:=by
 unfold bW
 have hf:=(er hm).1.fuel
 have:=aT hm
 split<;>simp<;>omega
end Go.Ab
end
section
namespace Go.Ab
open Go.Proofs
set_option maxRecDepth 10000
structure Pl where
 ord:List Int
 outs:List (List Int)
def aq (p:Pl) (k:Nat):Int:=p.ord.getD k 0
def bH (p:Pl) (x:Int):List Int:=p.outs.getD x.toNat []
def bw (g:Gr) (p:Pl):Prop:=p.outs.length=g.n.toNat∧p.ord.Perm (eD g.n.toNat)∧∀x:Nat,x<g.n.toNat→(p.outs.getD x []).Perm (bn g x)
def fK (g:Gr) (p:Pl):Nat→Fr
 |0=>⟨[], []⟩
 |k+1=>(az g (fK g p k) (aq p k) (bH p (aq p k))).2
def fN (g:Gr) (p:Pl) (k:Nat):List It:=(az g (fK g p k) (aq p k) (bH p (aq p k))).1.1
def uX (g:Gr) (p:Pl) (k:Nat):Bool:=aC g (fK g p k) (aq p k)
def eu (g:Gr) (p:Pl):Nat→List (List It)
 |0=>List.replicate g.n.toNat []
 |k+1=>(eu g p k).set (aq p k).toNat (fN g p k)
def jo (g:Gr) (p:Pl):Nat→Option Nat
 |0=>none
 |k+1=>match jo g p k with
  |some i=>some i
  |none=>if uX g p k=true then none else some k
def cA (g:Gr) (p:Pl):Prop:=(bJ g).1=0∧bw g p∧∀k,k<g.n.toNat→uX g p k=true
theorem fz {g:Gr} {p:Pl} :∀ {k:Nat},jo g p k=none↔∀j,j<k→uX g p j=true
 |0=>by simp [jo]
 |k+1=>by
  rw [jo]
  cases h:jo g p k with
  |some i=>
   simp only [reduceCtorEq,false_iff]
   intro h2
   rw [fz.2 fun j hj=>h2 j (by omega)] at h
   cases h
  |none=>
   have ih:=fz.1 h
   simp only
   constructor
   ·intro h2 j hj
    by_cases hjk:j=k
    ·subst hjk
     refine Decidable.byContradiction fun hn=> ?_
     rw [if_neg hn] at h2;cases h2
    ·exact ih j (by omega)
   ·intro h2
    rw [if_pos (h2 k (by omega))]
theorem nR {g:Gr} {p:Pl} {i:Nat} :∀ {k:Nat},jo g p k=some i↔i<k∧uX g p i=false∧∀j,j<i→uX g p j=true
 |0=>by simp [jo]
 |k+1=>by
  rw [jo]
  cases h:jo g p k with
  |some i'=>
   have ih:=(nR (g:=g) (p:=p)).1 h
   simp only [Option.some.injEq]
   constructor
   ·rintro rfl
    exact ⟨by omega,ih.2⟩
   ·rintro ⟨h1,h2,h3⟩
    rcases Nat.lt_trichotomy i' i with h4|h4|h4
    ·rw [h3 i' h4] at ih;simp at ih
    ·exact h4
    ·rw [ih.2.2 i h4] at h2;cases h2
  |none=>
   have ih:=fz.1 h
   simp only
   constructor
   ·intro h2
    by_cases hk:uX g p k=true
    ·rw [if_pos hk] at h2;cases h2
    ·rw [if_neg hk] at h2
     cases h2
     exact ⟨by omega,by simpa using hk,ih⟩
   ·rintro ⟨h1,h2,h3⟩
    have:i=k:=by
     by_cases h4:i<k
     ·rw [ih i h4] at h2;cases h2
     ·omega
    subst this
    rw [if_neg (by rw [h2];simp)]
theorem iY {n:Nat} :(eD n).length=n:=by simp [eD]
theorem bK {g:Gr} {p:Pl} (h:bw g p):p.ord.length=g.n.toNat:=by rw [h.2.1.length_eq,iY]
theorem tH {g:Gr} {p:Pl} (h:bw g p):p.ord.Nodup:=h.2.1.nodup_iff.2 gE
theorem aM {g:Gr} {p:Pl} (h:bw g p) {k:Nat} (hk:k<g.n.toNat):0≤aq p k∧aq p k<g.n:=by
 have h1:aq p k∈p.ord:=aS (by rw [bK h];exact hk)
 have:=dH.1 (h.2.1.mem_iff.1 h1)
 omega
theorem dO {g:Gr} {p:Pl} (h:bw g p) {i j:Nat} (hi:i<g.n.toNat) (hj:j<g.n.toNat) (e:aq p i=aq p j):i=j:=
 th (tH h) (by rw [bK h];exact hi) (by rw [bK h];exact hj) e
theorem fW {g:Gr} {p:Pl} (h:bw g p) {x:Int} (h0:0≤x) (h1:x<g.n):∃k,k<g.n.toNat∧aq p k=x:=by
 have:x∈p.ord:=h.2.1.mem_iff.2 (dH.2 (by omega))
 obtain ⟨k,hk,e⟩:=List.mem_iff_getElem.1 this
 refine ⟨k,by rw [← bK h];exact hk, ?_⟩
 rw [aq,List.getD_eq_getElem?_getD,List.getElem?_eq_getElem hk,Option.getD_some,e]
theorem bP {g:Gr} {p:Pl} (h:bw g p) {x:Int} (h0:0≤x) (h1:x<g.n):(bH p x).Perm (bn g x):=by
 have:=h.2.2 x.toNat (by omega)
 rwa [show ((x.toNat:Nat):Int)=x by omega] at this
theorem kN {g:Gr} {p:Pl} (h:bw g p) {x:Int} (h0:0≤x) (h1:x<g.n):(bH p x).length≤g.es.length:=by
 rw [(bP h h0 h1).length_eq];exact tw
theorem dm {g:Gr} (hm:aP g=true) {p:Pl} (h:bw g p):∀ {k:Nat},k≤g.n.toNat→(∀j,j<k→uX g p j=true)→xu g (fK g p k)∧(fK g p k).pl=p.ord.take k∧(fK g p k).row.length≤k*(g.es.length+1)
 |0,_,_=>⟨AI g,by simp [fK],by simp [fK]⟩
 |k+1,hk,hok=>by
  obtain ⟨h1,h2,h3⟩:=dm hm h (k:=k) (by omega) fun j hj=>hok j (by omega)
  obtain ⟨x0,x1⟩:=aM h (k:=k) (by omega)
  have hl:=B8 (g:=g) (f:=fK g p k) (x:=aq p k) (o:=bH p (aq p k))
  have ye:=kN h x0 x1
  refine ⟨j6 hm h1 (hok k (by omega)) (bP h x0 x1), ?_, ?_⟩
  ·show (fK g p k).pl++ [aq p k]=_
   rw [h2,List.take_add_one,List.getElem?_eq_getElem (by rw [bK h];omega),aq,List.getD_eq_getElem?_getD,List.getElem?_eq_getElem (by rw [bK h];omega)]
   rfl
  ·show (az _ _ _ _).2.row.length≤_
   rw [Nat.add_mul];omega
theorem yA {g:Gr} {p:Pl} (h:bw g p) {k:Nat} (hk:k<g.n.toNat) (hR:uX g p k=true):c7 g (fK g p k) (aq p k) (bH p (aq p k))=az g (fK g p k) (aq p k) (bH p (aq p k)):=by
 have hp:=bP h (aM h hk).1 (aM h hk).2
 unfold c7
 have H8:aC g (fK g p k) (aq p k)=true:=hR
 rw [if_neg (by rw [H8];simp),if_neg]
 rintro (h|⟨i,h1,h2⟩)
 ·exact h hp.length_eq
 ·exact h2 (hp.mem_iff.2 h1)
theorem yC {g:Gr} {p:Pl} {k:Nat} (hR:uX g p k=false):c7 g (fK g p k) (aq p k) (bH p (aq p k))=(([],3),fK g p k):=if_pos hR
theorem lW {g:Gr} {p:Pl} :∀ {k:Nat},(eu g p k).length=g.n.toNat
 |0=>by simp [eu]
 |k+1=>by rw [eu,List.length_set,lW]
theorem Ci {α:Type} {l:List α} {i j:Nat} {a d:α} (hi:i<l.length):(l.set i a).getD j d=if j=i then a else l.getD j d:=by
 rw [List.getD_eq_getElem?_getD,List.getElem?_set,List.getD_eq_getElem?_getD]
 by_cases h:i=j
 ·subst h;simp [hi]
 ·rw [if_neg h,if_neg (Ne.symm h)]
theorem o8 {g:Gr} {p:Pl} (h:bw g p):∀ {k:Nat},k≤g.n.toNat→∀ {i:Nat},i<k→(eu g p k).getD (aq p i).toNat []=fN g p i
 |0,_,i,hi=>by omega
 |k+1,hk,i,hi=>by
  have hm:=aM h (k:=k) (by omega)
  rw [eu,Ci (by rw [lW];omega)]
  by_cases e:i=k
  ·subst e;rw [if_pos rfl]
  ·have Nt:=aM h (k:=i) (by omega)
   rw [if_neg (fun h2=>e (dO h (by omega) (by omega) (by omega)))]
   exact o8 h (by omega) (by omega)
theorem o9 {l m:List Int} (h:ig l=m):l.Perm m:=by
 rw [← h];exact (List.mergeSort_perm l _).symm
theorem yD {n:Nat} :(eD n).Pairwise (· ≤ ·):=by
 unfold eD
 refine List.Pairwise.map _ (fun a b (h:a<b)=> ?_) List.pairwise_lt_range
 show (a:Int)≤b
 omega
theorem Gh {g:Gr} (hm:aP g=true) {p:Pl} :(p.outs.length=g.n.toNat∧p.ord.length=g.n.toNat∧(∀i:Nat,i<(ig p.ord).length→(ig p.ord).getD i 0=i)∧∀x:Nat,x<p.outs.length→ig (p.outs.getD x [])=bu (·.1) g x)↔bw g p:=by
 constructor
 ·rintro ⟨h1,h2,h3,h4⟩
  refine ⟨h1,o9 ?_,fun x hx=> ?_⟩
  ·refine List.ext_getElem (by rw [fk,h2,iY]) fun i h5 h6=> ?_
   have:=h3 i h5
   rw [List.getD_eq_getElem?_getD,List.getElem?_eq_getElem h5,Option.getD_some] at this
   rw [this];simp [eD]
  ·have:=h4 x (by omega)
   rw [fM (by omega) (by omega)] at this
   exact o9 this
 ·intro h
  refine ⟨h.1,bK h, ?_,fun x hx=> ?_⟩
  ·rw [tE h.2.1 yD]
   intro i hi
   rw [iY] at hi
   simp [eD,List.getD_eq_getElem?_getD,List.getElem?_range hi]
  ·rw [fM (by omega) (by have:=h.1;omega)]
   exact tE (h.2.2 x (by rw [← h.1];exact hx)) qI
theorem AN {g:Gr} (hm:aP g=true) {p:Pl} :(fU p.ord g.n=true∧p.outs.length=g.n.toNat∧(∀x:Nat,x<p.outs.length→∀i∈p.outs.getD x [],i∈bn g x)∧p.outs.flatten.Nodup∧∀i:Nat,i<g.es.length→(i:Int)∈p.outs.flatten)↔bw g p:=by
 have hn:=aT hm
 constructor
 ·rintro ⟨h1,h2,h3,h4,h5⟩
  refine ⟨h2, ?_,fun x hx=> ?_⟩
  ·obtain ⟨e1,e2⟩:=b8.1 h1
   exact ry gE e2 (by rw [iY];omega)
  ·have hxl:x<p.outs.length:=by omega
   have hmem:p.outs.getD x []∈p.outs:=aS hxl
   have b7:(p.outs.getD x []).Nodup:=by
    rw [List.Nodup,List.pairwise_flatten] at h4
    exact h4.1 _ hmem
   refine (List.perm_ext_iff_of_nodup b7 bX).2 fun i=>⟨h3 x hxl i,fun hi=> ?_⟩
   obtain ⟨k,rfl,hk,ht⟩:=j4 hi
   obtain ⟨l,hl,bT⟩:=List.mem_flatten.1 (h5 k hk)
   obtain ⟨y,hy,rfl⟩:=List.mem_iff_getElem.1 hl
   have e:p.outs.getD y []=p.outs[y]:=by rw [List.getD_eq_getElem?_getD,List.getElem?_eq_getElem hy];rfl
   rw [← e] at bT
   obtain ⟨k',e1,_,e2⟩:=j4 (h3 y hy _ bT)
   have:k=k':=by omega
   subst this
   have:x=y:=by omega
   subst this
   exact bT
 ·intro h
  refine ⟨b8.2 ⟨?_,fun x hx=>h.2.1.mem_iff.2 hx⟩,h.1,fun x hx i hi=>(h.2.2 x (by rw [← h.1];exact hx)).mem_iff.1 hi, ?_,fun i hi=> ?_⟩
  ·have:=bK h;omega
  ·rw [List.Nodup,List.pairwise_flatten]
   constructor
   ·intro l hl
    obtain ⟨x,hx,rfl⟩:=List.mem_iff_getElem.1 hl
    have e:p.outs.getD x []=p.outs[x]:=by rw [List.getD_eq_getElem?_getD,List.getElem?_eq_getElem hx];rfl
    rw [← e]
    exact (h.2.2 x (by rw [← h.1];exact hx)).nodup_iff.2 bX
   ·refine List.pairwise_iff_getElem.2 fun x y hx hy hxy a ha b hb e=> ?_
    subst e
    have ex:p.outs.getD x []=p.outs[x]:=by rw [List.getD_eq_getElem?_getD,List.getElem?_eq_getElem hx];rfl
    have ey:p.outs.getD y []=p.outs[y]:=by rw [List.getD_eq_getElem?_getD,List.getElem?_eq_getElem hy];rfl
    rw [← ex] at ha
    rw [← ey] at hb
    obtain ⟨k,e1,_,e2⟩:=j4 ((h.2.2 x (by rw [← h.1];exact hx)).mem_iff.1 ha)
    obtain ⟨k',e3,_,e4⟩:=j4 ((h.2.2 y (by rw [← h.1];exact hy)).mem_iff.1 hb)
    have:k=k':=by omega
    subst this
    omega
  ·have ht:=(dS hm hi).1
   refine List.mem_flatten.2 ⟨p.outs.getD (tl g i).toNat [],aS (by rw [h.1];have:0≤tl g i∧tl g i<g.n:=ht;omega), ?_⟩
   have:0≤tl g i∧tl g i<g.n:=ht
   refine (h.2.2 _ (by omega)).mem_iff.2 ?_
   simp only [bn,aG,List.mem_map,List.mem_filter,List.mem_range,decide_eq_true_eq]
   exact ⟨i,⟨hi,by show tl g i=_;omega⟩,rfl⟩
end Go.Ab
end
section
namespace Go.Ab
open Go.Proofs
set_option maxRecDepth 10000
def uY (g:Gr) (p:Pl) (f:Fr) (x:Int):Fr:=(az g f x (bH p x)).2
def J6 (g:Gr) (p:Pl):Nat→Fr→Prop
 |0,f=>(f.pl.length:Int)=g.n
 |m+1,f=>∃x,aC g f x=true∧J6 g p m (uY g p f x)
def J7 (rev:Bool) (l:List It):List It:=if rev=true then l.reverse else l
def Ei (g:Gr) (f:Fr) (rev:Bool):Int:=match (J7 rev f.row).find? (fun t=>aC g f t.2.2) with
 |some t=>t.2.2
 |none=>(Ia g f).headD (-1)
def AO (g:Gr) (p:Pl) (rev:Bool):Nat→Fr
 |0=>⟨[], []⟩
 |k+1=>uY g p (AO g p rev k) (Ei g (AO g p rev k) rev)
def Ej (g:Gr) (p:Pl) (rev:Bool):Nat→List Int
 |0=>List.replicate g.n.toNat 0
 |k+1=>(Ej g p rev k).set (Ei g (AO g p rev k) rev).toNat (k:Int)
def Ph (g:Gr) (p:Pl) (rev:Bool):List Int:=(List.range g.n.toNat).map fun k=>Ei g (AO g p rev k) rev
end Go.Ab
end
section
namespace Go.Ab
open Go.Proofs
set_option maxRecDepth 10000
def Pj (f:Fr):Fr:=⟨f.row.reverse,f.pl⟩
def Pk (p:Pl):Pl:=⟨p.ord,p.outs.map List.reverse⟩
theorem fV.rev {x:Int} {l:List It} (h:fV x l):fV x l.reverse:=fun t ht=>h t (List.mem_reverse.1 ht)
theorem Ca.rev {x:Int} {X:List It} (h:Ca x X):Ca x X.reverse:=
 ⟨by obtain ⟨X',q,h1,h2⟩:=h.Fp;exact ⟨q,X'.reverse,by simp [h1],h2⟩,by obtain ⟨p,X',h1,h2⟩:=h.fst;exact ⟨X'.reverse,p,by simp [h1],h2⟩,fun t ht=>h.al t (List.mem_reverse.1 ht)⟩
end Go.Ab
end
section
namespace Go.Ab
open Go.Proofs
set_option maxRecDepth 10000
def loose (l:List It):List Int:=(l.filter fun t=>decide (t.1<0)).map fun t=>t.2.1
theorem uZ {a b:List It} :loose (a++b)=loose a++loose b:=by simp [loose]
def J8 (g:Gr) (p:Pl):Nat→List Edge
 |0=> []
 |k+1=>J8 g p k++(loose (fN g p k)).map fun v=>(v,aq p k)
def kX (g:Gr) (p:Pl):List It:=(fK g p g.n.toNat).row
def newL (g:Gr) (p:Pl):List Edge:=if 1<(kX g p).length then (loose (kX g p)).map fun v=>(v,g.n) else []
def J9 (g:Gr) (p:Pl):List Edge:=J8 g p g.n.toNat++newL g p
def Ek (g:Gr) (p:Pl):Gr:=⟨if 1<(kX g p).length then g.n+1 else g.n,g.es++J9 g p⟩
def Ka:Nat→List Edge→List (List Int)→List (List Int)
 |_, [],O=>O
 |m,e::N,O=>Ka (m+1) N (O.set e.1.toNat [(m:Int)])
def MB (g:Gr) (p:Pl):Pl:=⟨if 1<(kX g p).length then p.ord++ [g.n] else p.ord,Ka g.es.length (J9 g p) (if 1<(kX g p).length then p.outs++ [[]] else p.outs)⟩
def Pm (g:Gr) (p:Pl) (x:Gr):List (List Int):=(List.range x.n.toNat).map fun v=>if 0<(p.outs.getD v []).length then p.outs.getD v [] else bn x (v:Int)
theorem pe {g:Gr} {p:Pl} (h:bw g p) {v:Int} (h0:0≤v) (h1:v<g.n):bn g v= []↔bH p v= []:=by
 have hp:=bP h h0 h1
 constructor
 ·intro e;rw [e] at hp;exact hp.eq_nil
 ·intro e;rw [e] at hp;exact hp.symm.eq_nil
end Go.Ab
end
section
namespace Go.Ab
open Go.Proofs
set_option maxRecDepth 10000
abbrev Act:=Int × List Int
def rA (a:Act):List D:= [.sc (.int .i64 a.1),sI a.2]
def sA (as':List Act):D:= .sl 2 (as'.map rA)
attribute [go_sem] sA
def Kb (g:Gr) (Ic:List Act):Nat→Fr
 |0=>⟨[], []⟩
 |k+1=>(c7 g (Kb g Ic k) (Ic.getD k (0, [])).1 (Ic.getD k (0, [])).2).2
theorem GR {g:Gr} {f:Fr} (hi:ij g f):(f.pl.length:Int)≤g.n∨f.pl= []:=by
 by_cases h:f.pl= []
 ·exact .inr h
 ·left
  obtain ⟨y,hy⟩:=List.exists_mem_of_ne_nil _ h
  have:=hi.GP y hy
  have h3:=nQ hi.pl (m:=(List.range g.n.toNat).map Int.ofNat) (fun y hy=>by
   rw [List.mem_map]
   have:=hi.GP y hy
   exact ⟨y.toNat,List.mem_range.2 (by omega),by simp;omega⟩)
  simp at h3
  omega
theorem yE (g:Gr) (hm:aP g=true) (f:Fr) (hi:xu g f) (x:Int) (outs:List Int) (hr:f.row.length≤300000) (hp:f.pl.length≤100000) (ho:outs.length≤17592186043904):
 Spec Tryz.prog 86 (Args [.ptr 10000 0,eN x, .d (sI outs)]) (jc g f) (.tup [.d (sT (c7 g f x outs).1.1),eN (c7 g f x outs).1.2]) (tu g (c7 g f x outs).2):=by
 rw [← Ec hm hi.toij]
 exact zT g hm f x outs hr hp ho
end Go.Ab
end
section
namespace Go.Ab
open Go.Proofs
attribute [local congr] ACall.congr
set_option maxRecDepth 10000
set_option maxHeartbeats 4000000
def ePl (p:Pl):AV:= .agg [.d (sI p.ord), .d (.sl 1 (vI p.outs))]
attribute [go_sem] ePl
structure pg (p:Pl):Prop where
 ord:p.ord.length≤17592186043904
 outs:p.outs.length≤9223372036854775807
 each:∀l∈p.outs,l.length≤17592186043904
theorem El (g:Gr) (hm:aP g=true) (p:Pl) (hp:pg p) (res:Bool) (hr:res=true↔bw g p):Spec Tryz.prog 85 (Args [.d (vw g),ePl p]) [] (eB res) []:=by
 rw [← Gh hm] at hr
 have hn:=aT hm
 have ho:=hp.ord
 have I6:=hp.outs
 by_cases h1:p.outs.length=g.n.toNat∧p.ord.length=g.n.toNat
 rotate_left
 ·have hres:res=false:=by
   rw [← Bool.not_eq_true,hr]
   rintro ⟨h2,h3,_⟩
   exact h1 ⟨h2,h3⟩
  subst hres
  by_cases h2:(p.outs.length:Int)=g.n
  ·have an:decide ((p.outs.length:Int)=g.n)=true:=decide_eq_true h2
   have ak:decide ((p.ord.length:Int)=g.n)=false:=decide_eq_false fun h3=>h1 ⟨by omega,by omega⟩
   (refine Spec.intro (C:=T.cfg [] []) (rs:= [.t 4]) (T.aj _ _) Tryz.func85 rfl rfl Tryz.ntmps85 Tryz.results85 (by simp [AObj.isNest]) (by simp [AObj.isNest]) (by kernel_rfl) ?_;intro X hX hP hC aD aF vals hA;refine ⟨_,by simp,hA, ?_⟩;have af:X.P.follows .mixedOrders=true:=(by rw [hP];exact T.mixed);clear aD aF)
   repeat' (first|((first|((with_reducible (first|apply oA|apply oB));exact rfl;intro K hK)|(refine hK _ ?_;clear hK K)|((with_reducible (first|apply oG|apply oH));iterate 3 exact rfl)|((with_reducible apply oI);(iterate 2 exact rfl);intro K hK)|(with_reducible (first|apply wI|apply wJ|apply wK)));try simp only [go_sem,simprocAttr,ag,an,ak])|(with_reducible (first|apply oC|apply oJ|exact oK|apply wA|apply wB|apply wC hX hC|apply wD hX hC|apply wE hX hC af|apply wF hX hC af|apply wG|apply wH|apply And.intro))|((with_reducible refine oD ?_ ?_);kernel_rfl)|((with_reducible (first|apply oE|apply oF));(iterate 3 exact rfl);all_goals (intro h;first|(exact absurd h (by decide))|((try simp only [go_sem,simprocAttr,ag,an,ak] at h);(try with_reducible intro K hK);simp only [go_sem,simprocAttr,ag,an,ak])))|((first|((with_reducible apply wL);exact rfl)|((with_reducible apply wM);exact rfl));all_goals (try ((with_reducible intro h);first|(exact absurd h (by decide))|(try simp only [go_sem,simprocAttr,ag,an,ak] at h))))|omega|(intro h))
  ·have an:decide ((p.outs.length:Int)=g.n)=false:=decide_eq_false h2
   (refine Spec.intro (C:=T.cfg [] []) (rs:= [.t 4]) (T.aj _ _) Tryz.func85 rfl rfl Tryz.ntmps85 Tryz.results85 (by simp [AObj.isNest]) (by simp [AObj.isNest]) (by kernel_rfl) ?_;intro X hX hP hC aD aF vals hA;refine ⟨_,by simp,hA, ?_⟩;have af:X.P.follows .mixedOrders=true:=(by rw [hP];exact T.mixed);clear aD aF)
   repeat' (first|((first|((with_reducible (first|apply oA|apply oB));exact rfl;intro K hK)|(refine hK _ ?_;clear hK K)|((with_reducible (first|apply oG|apply oH));iterate 3 exact rfl)|((with_reducible apply oI);(iterate 2 exact rfl);intro K hK)|(with_reducible (first|apply wI|apply wJ|apply wK)));try simp only [go_sem,simprocAttr,ag,an])|(with_reducible (first|apply oC|apply oJ|exact oK|apply wA|apply wB|apply wC hX hC|apply wD hX hC|apply wE hX hC af|apply wF hX hC af|apply wG|apply wH|apply And.intro))|((with_reducible refine oD ?_ ?_);kernel_rfl)|((with_reducible (first|apply oE|apply oF));(iterate 3 exact rfl);all_goals (intro h;first|(exact absurd h (by decide))|((try simp only [go_sem,simprocAttr,ag,an] at h);(try with_reducible intro K hK);simp only [go_sem,simprocAttr,ag,an])))|((first|((with_reducible apply wL);exact rfl)|((with_reducible apply wM);exact rfl));all_goals (try ((with_reducible intro h);first|(exact absurd h (by decide))|(try simp only [go_sem,simprocAttr,ag,an] at h))))|omega|(intro h))
 have an:decide ((p.outs.length:Int)=g.n)=true:=decide_eq_true (by omega)
 have ak:decide ((p.ord.length:Int)=g.n)=true:=decide_eq_true (by omega)
 have Fj:=fk p.ord
 (refine Spec.intro (C:=T.cfg [] []) (rs:= [.t 4]) (T.aj _ _) Tryz.func85 rfl rfl Tryz.ntmps85 Tryz.results85 (by simp [AObj.isNest]) (by simp [AObj.isNest]) (by kernel_rfl) ?_;intro X hX hP hC aD aF vals hA;refine ⟨_,by simp,hA, ?_⟩;have af:X.P.follows .mixedOrders=true:=(by rw [hP];exact T.mixed);clear aD aF)
 repeat' (first|((first|((with_reducible (first|apply oA|apply oB));exact rfl;intro K hK)|(refine hK _ ?_;clear hK K)|((with_reducible (first|apply oG|apply oH));iterate 3 exact rfl)|((with_reducible apply oI);(iterate 2 exact rfl);intro K hK)|(with_reducible (first|apply wI|apply wJ|apply wK)));try simp only [go_sem,simprocAttr,ag,an,ak])|(with_reducible (first|apply oC|apply oJ|exact oK|apply wA|apply wB|apply wC hX hC|apply wD hX hC|apply wE hX hC af|apply wF hX hC af|apply wG|apply wH|apply And.intro))|((with_reducible refine oD ?_ ?_);kernel_rfl)|((with_reducible (first|apply oE|apply oF));(iterate 3 exact rfl);all_goals (intro h;first|(exact absurd h (by decide))|((try simp only [go_sem,simprocAttr,ag,an,ak] at h);(try with_reducible intro K hK);simp only [go_sem,simprocAttr,ag,an,ak])))|((first|((with_reducible apply wL);exact rfl)|((with_reducible apply wM);exact rfl));all_goals (try ((with_reducible intro h);first|(exact absurd h (by decide))|(try simp only [go_sem,simprocAttr,ag,an,ak] at h))))|omega|((first|(refine au hX hC hP [(10000,31)] (cE p.ord) rfl rfl rfl ?_ ?_ ?_ ?_ ?_ ?_ ?_ ?_ ?_ ?_ ?_ ?_ ?_ ?_;(focus (simp only [go_sem,simprocAttr,ag,an,ak];done));(iterate 12 (focus (simp [go_sem,simprocAttr,ag,an,ak];done)));simp only [go_sem,simprocAttr,ag,an,ak,List.map_cons,List.map_nil])|(refine aV hX hC hP [(10000,31)] (b9 p.ord ho) rfl rfl rfl ?_ ?_ ?_ ?_ ?_ ?_ rfl rfl ?_ ?_;(focus (simp only [go_sem,simprocAttr,ag,an,ak];done));(iterate 6 (focus (simp [go_sem,simprocAttr,ag,an,ak];done)));simp only [go_sem,simprocAttr,ag,an,ak,List.map_cons,List.map_nil]));try simp only [go_sem,simprocAttr,ag,an,ak])|(intro h))
 clear an ak
 refine ah (fun k:Nat=>k≤(ig p.ord).length∧∀i:Nat,i<k→(ig p.ord).getD i 0=i) (fun k=>⟨[(0, .d (vw g)),(3, .ptr 3 0),(32, .d (sI (ig p.ord))),(33,eN (ig p.ord).length),(34,eN k)], [(3, .box [.d (sI p.ord), .d (.sl 1 (vI p.outs))])]⟩) (fun k=>(ig p.ord).length - k) 0 (by simp) ?_ ?_
 ·(refine Le.of ?_ ?_<;>simp [go_sem,simprocAttr,ag])
 rintro k ⟨hk,hg⟩
 rcases Nat.lt_or_ge k (ig p.ord).length with hlt|hge
 ·have hb:decide ((k:Int)<((ig p.ord).length:Int))=true:=decide_eq_true (by omega)
  by_cases he:(ig p.ord).getD k 0=k
  ·have ak:decide ((ig p.ord).getD k 0=(k:Int))=true:=decide_eq_true he
   repeat' (first|((first|((with_reducible (first|apply oA|apply oB));exact rfl;intro K hK)|(refine hK _ ?_;clear hK K)|((with_reducible (first|apply oG|apply oH));iterate 3 exact rfl)|((with_reducible apply oI);(iterate 2 exact rfl);intro K hK)|(with_reducible (first|apply wI|apply wJ|apply wK)));try simp only [go_sem,simprocAttr,ag,hb,ak])|(with_reducible (first|apply oC|apply oJ|exact oK|apply wA|apply wB|apply wC hX hC|apply wD hX hC|apply wE hX hC af|apply wF hX hC af|apply wG|apply wH|apply And.intro))|((with_reducible refine oD ?_ ?_);kernel_rfl)|((with_reducible (first|apply oE|apply oF));(iterate 3 exact rfl);all_goals (intro h;first|(exact absurd h (by decide))|((try simp only [go_sem,simprocAttr,ag,hb,ak] at h);(try with_reducible intro K hK);simp only [go_sem,simprocAttr,ag,hb,ak])))|((first|((with_reducible apply wL);exact rfl)|((with_reducible apply wM);exact rfl));all_goals (try ((with_reducible intro h);first|(exact absurd h (by decide))|(try simp only [go_sem,simprocAttr,ag,hb,ak] at h))))|omega|((first|(refine au hX hC hP [(10000,31)] (cE p.ord) rfl rfl rfl ?_ ?_ ?_ ?_ ?_ ?_ ?_ ?_ ?_ ?_ ?_ ?_ ?_ ?_;(focus (simp only [go_sem,simprocAttr,ag,hb,ak];done));(iterate 12 (focus (simp [go_sem,simprocAttr,ag,hb,ak];done)));simp only [go_sem,simprocAttr,ag,hb,ak,List.map_cons,List.map_nil])|(refine aV hX hC hP [(10000,31)] (b9 p.ord ho) rfl rfl rfl ?_ ?_ ?_ ?_ ?_ ?_ rfl rfl ?_ ?_;(focus (simp only [go_sem,simprocAttr,ag,hb,ak];done));(iterate 6 (focus (simp [go_sem,simprocAttr,ag,hb,ak];done)));simp only [go_sem,simprocAttr,ag,hb,ak,List.map_cons,List.map_nil]));try simp only [go_sem,simprocAttr,ag,hb,ak])|(intro h))
   refine ⟨k+1,⟨by omega,fun i hi=> ?_⟩, ?_,by omega⟩
   ·by_cases hik:i=k
    ·subst hik;exact he
    ·exact hg i (by omega)
   ·(refine Le.of ?_ ?_<;>simp [go_sem,simprocAttr,ag,hb,ak])
  ·have ak:decide ((ig p.ord).getD k 0=(k:Int))=false:=decide_eq_false he
   have hres:res=false:=by
    rw [← Bool.not_eq_true,hr]
    rintro ⟨_,_,h3,_⟩
    exact he (h3 k hlt)
   subst hres
   repeat' (first|((first|((with_reducible (first|apply oA|apply oB));exact rfl;intro K hK)|(refine hK _ ?_;clear hK K)|((with_reducible (first|apply oG|apply oH));iterate 3 exact rfl)|((with_reducible apply oI);(iterate 2 exact rfl);intro K hK)|(with_reducible (first|apply wI|apply wJ|apply wK)));try simp only [go_sem,simprocAttr,ag,hb,ak])|(with_reducible (first|apply oC|apply oJ|exact oK|apply wA|apply wB|apply wC hX hC|apply wD hX hC|apply wE hX hC af|apply wF hX hC af|apply wG|apply wH|apply And.intro))|((with_reducible refine oD ?_ ?_);kernel_rfl)|((with_reducible (first|apply oE|apply oF));(iterate 3 exact rfl);all_goals (intro h;first|(exact absurd h (by decide))|((try simp only [go_sem,simprocAttr,ag,hb,ak] at h);(try with_reducible intro K hK);simp only [go_sem,simprocAttr,ag,hb,ak])))|((first|((with_reducible apply wL);exact rfl)|((with_reducible apply wM);exact rfl));all_goals (try ((with_reducible intro h);first|(exact absurd h (by decide))|(try simp only [go_sem,simprocAttr,ag,hb,ak] at h))))|omega|((first|(refine au hX hC hP [(10000,31)] (cE p.ord) rfl rfl rfl ?_ ?_ ?_ ?_ ?_ ?_ ?_ ?_ ?_ ?_ ?_ ?_ ?_ ?_;(focus (simp only [go_sem,simprocAttr,ag,hb,ak];done));(iterate 12 (focus (simp [go_sem,simprocAttr,ag,hb,ak];done)));simp only [go_sem,simprocAttr,ag,hb,ak,List.map_cons,List.map_nil])|(refine aV hX hC hP [(10000,31)] (b9 p.ord ho) rfl rfl rfl ?_ ?_ ?_ ?_ ?_ ?_ rfl rfl ?_ ?_;(focus (simp only [go_sem,simprocAttr,ag,hb,ak];done));(iterate 6 (focus (simp [go_sem,simprocAttr,ag,hb,ak];done)));simp only [go_sem,simprocAttr,ag,hb,ak,List.map_cons,List.map_nil]));try simp only [go_sem,simprocAttr,ag,hb,ak])|(intro h))
 have hb:decide ((k:Int)<((ig p.ord).length:Int))=false:=decide_eq_false (by omega)
 repeat' (first|((first|((with_reducible (first|apply oA|apply oB));exact rfl;intro K hK)|(refine hK _ ?_;clear hK K)|((with_reducible (first|apply oG|apply oH));iterate 3 exact rfl)|((with_reducible apply oI);(iterate 2 exact rfl);intro K hK)|(with_reducible (first|apply wI|apply wJ|apply wK)));try simp only [go_sem,simprocAttr,ag,hb])|(with_reducible (first|apply oC|apply oJ|exact oK|apply wA|apply wB|apply wC hX hC|apply wD hX hC|apply wE hX hC af|apply wF hX hC af|apply wG|apply wH|apply And.intro))|((with_reducible refine oD ?_ ?_);kernel_rfl)|((with_reducible (first|apply oE|apply oF));(iterate 3 exact rfl);all_goals (intro h;first|(exact absurd h (by decide))|((try simp only [go_sem,simprocAttr,ag,hb] at h);(try with_reducible intro K hK);simp only [go_sem,simprocAttr,ag,hb])))|((first|((with_reducible apply wL);exact rfl)|((with_reducible apply wM);exact rfl));all_goals (try ((with_reducible intro h);first|(exact absurd h (by decide))|(try simp only [go_sem,simprocAttr,ag,hb] at h))))|omega|((first|(refine au hX hC hP [(10000,31)] (cE p.ord) rfl rfl rfl ?_ ?_ ?_ ?_ ?_ ?_ ?_ ?_ ?_ ?_ ?_ ?_ ?_ ?_;(focus (simp only [go_sem,simprocAttr,ag,hb];done));(iterate 12 (focus (simp [go_sem,simprocAttr,ag,hb];done)));simp only [go_sem,simprocAttr,ag,hb,List.map_cons,List.map_nil])|(refine aV hX hC hP [(10000,31)] (b9 p.ord ho) rfl rfl rfl ?_ ?_ ?_ ?_ ?_ ?_ rfl rfl ?_ ?_;(focus (simp only [go_sem,simprocAttr,ag,hb];done));(iterate 6 (focus (simp [go_sem,simprocAttr,ag,hb];done)));simp only [go_sem,simprocAttr,ag,hb,List.map_cons,List.map_nil]));try simp only [go_sem,simprocAttr,ag,hb])|(intro h))
 obtain rfl:k=(ig p.ord).length:=by omega
 clear hb hk
 refine ah (fun x:Nat=>x≤p.outs.length∧∀i:Nat,i<x→ig (p.outs.getD i [])=bu (·.1) g i) (fun x=>⟨[(0, .d (vw g)),(44, .d (.sl 1 (vI p.outs))),(45,eN p.outs.length),(46,eN x)], []⟩) (fun x=>p.outs.length - x) 0 (by simp) ?_ ?_
 ·refine Le.of ?_ ?_<;>simp [go_sem,simprocAttr,ag]
 rintro x ⟨hx,oa⟩
 rcases Nat.lt_or_ge x p.outs.length with hxl|Em
 ·have hb:decide ((x:Int)<(p.outs.length:Int))=true:=decide_eq_true (by omega)
  have hv:=kK hxl
  have hl:=hp.each _ (aS (d:= []) hxl)
  have hn2:∀h:ig (p.outs.getD x [])=bu (·.1) g x,∀i:Nat,i<x+1→ig (p.outs.getD i [])=bu (·.1) g i:=fun h i hi=>by
   by_cases IU:i=x
   ·subst IU;exact h
   ·exact oa i (by omega)
  have uD:¬ig (p.outs.getD x [])=bu (·.1) g x→res=false:=fun h=>by
   rw [← Bool.not_eq_true,hr]
   rintro ⟨_,_,_,h4⟩
   exact h (h4 x hxl)
  generalize p.outs.getD x []=l at hv hl hn2 uD
  have Pn:=fk l
  by_cases he:ig l=bu (·.1) g x
  ·have ak:decide (ig l=bu (·.1) g (x:Int))=true:=decide_eq_true he
   repeat' (first|((first|((with_reducible (first|apply oA|apply oB));exact rfl;intro K hK)|(refine hK _ ?_;clear hK K)|((with_reducible (first|apply oG|apply oH));iterate 3 exact rfl)|((with_reducible apply oI);(iterate 2 exact rfl);intro K hK)|(with_reducible (first|apply wI|apply wJ|apply wK)));try simp only [go_sem,simprocAttr,hb,hv,ak])|(with_reducible (first|apply oC|apply oJ|exact oK|apply wA|apply wB|apply wC hX hC|apply wD hX hC|apply wE hX hC af|apply wF hX hC af|apply wG|apply wH|apply And.intro))|((with_reducible refine oD ?_ ?_);kernel_rfl)|((with_reducible (first|apply oE|apply oF));(iterate 3 exact rfl);all_goals (intro h;first|(exact absurd h (by decide))|((try simp only [go_sem,simprocAttr,hb,hv,ak] at h);(try with_reducible intro K hK);simp only [go_sem,simprocAttr,hb,hv,ak])))|((first|((with_reducible apply wL);exact rfl)|((with_reducible apply wM);exact rfl));all_goals (try ((with_reducible intro h);first|(exact absurd h (by decide))|(try simp only [go_sem,simprocAttr,hb,hv,ak] at h))))|omega|((first|(refine au hX hC hP [(10000,52)] (cE l) rfl rfl rfl ?_ ?_ ?_ ?_ ?_ ?_ ?_ ?_ ?_ ?_ ?_ ?_ ?_ ?_;(focus (simp only [go_sem,simprocAttr,hb,hv,ak];done));(iterate 12 (focus (simp [go_sem,simprocAttr,hb,hv,ak];done)));simp only [go_sem,simprocAttr,hb,hv,ak,List.map_cons,List.map_nil])|(refine aV hX hC hP [(10000,52)] (b9 l hl) rfl rfl rfl ?_ ?_ ?_ ?_ ?_ ?_ rfl rfl ?_ ?_;(focus (simp only [go_sem,simprocAttr,hb,hv,ak];done));(iterate 6 (focus (simp [go_sem,simprocAttr,hb,hv,ak];done)));simp only [go_sem,simprocAttr,hb,hv,ak,List.map_cons,List.map_nil])|refine aa hX hC hP (iG g hm (x:Int)) rfl rfl rfl (by simp only [go_sem,simprocAttr,hb,hv,ak]) rfl ?_|refine aa hX hC hP (fJ (ig l) (bu (·.1) g x) (by omega)) rfl rfl rfl (by simp only [go_sem,simprocAttr,hb,hv,ak]) rfl ?_);try simp only [go_sem,simprocAttr,hb,hv,ak])|(intro h))
   refine ⟨x+1,⟨by omega,hn2 he⟩, ?_,by omega⟩
   (refine Le.of ?_ ?_<;>simp [go_sem,simprocAttr,hb,hv,ak])
  ·have ak:decide (ig l=bu (·.1) g (x:Int))=false:=decide_eq_false he
   have hres:=uD he
   subst hres
   repeat' (first|((first|((with_reducible (first|apply oA|apply oB));exact rfl;intro K hK)|(refine hK _ ?_;clear hK K)|((with_reducible (first|apply oG|apply oH));iterate 3 exact rfl)|((with_reducible apply oI);(iterate 2 exact rfl);intro K hK)|(with_reducible (first|apply wI|apply wJ|apply wK)));try simp only [go_sem,simprocAttr,hb,hv,ak])|(with_reducible (first|apply oC|apply oJ|exact oK|apply wA|apply wB|apply wC hX hC|apply wD hX hC|apply wE hX hC af|apply wF hX hC af|apply wG|apply wH|apply And.intro))|((with_reducible refine oD ?_ ?_);kernel_rfl)|((with_reducible (first|apply oE|apply oF));(iterate 3 exact rfl);all_goals (intro h;first|(exact absurd h (by decide))|((try simp only [go_sem,simprocAttr,hb,hv,ak] at h);(try with_reducible intro K hK);simp only [go_sem,simprocAttr,hb,hv,ak])))|((first|((with_reducible apply wL);exact rfl)|((with_reducible apply wM);exact rfl));all_goals (try ((with_reducible intro h);first|(exact absurd h (by decide))|(try simp only [go_sem,simprocAttr,hb,hv,ak] at h))))|omega|((first|(refine au hX hC hP [(10000,52)] (cE l) rfl rfl rfl ?_ ?_ ?_ ?_ ?_ ?_ ?_ ?_ ?_ ?_ ?_ ?_ ?_ ?_;(focus (simp only [go_sem,simprocAttr,hb,hv,ak];done));(iterate 12 (focus (simp [go_sem,simprocAttr,hb,hv,ak];done)));simp only [go_sem,simprocAttr,hb,hv,ak,List.map_cons,List.map_nil])|(refine aV hX hC hP [(10000,52)] (b9 l hl) rfl rfl rfl ?_ ?_ ?_ ?_ ?_ ?_ rfl rfl ?_ ?_;(focus (simp only [go_sem,simprocAttr,hb,hv,ak];done));(iterate 6 (focus (simp [go_sem,simprocAttr,hb,hv,ak];done)));simp only [go_sem,simprocAttr,hb,hv,ak,List.map_cons,List.map_nil])|refine aa hX hC hP (iG g hm (x:Int)) rfl rfl rfl (by simp only [go_sem,simprocAttr,hb,hv,ak]) rfl ?_|refine aa hX hC hP (fJ (ig l) (bu (·.1) g x) (by omega)) rfl rfl rfl (by simp only [go_sem,simprocAttr,hb,hv,ak]) rfl ?_);try simp only [go_sem,simprocAttr,hb,hv,ak])|(intro h))
 ·have hb:decide ((x:Int)<(p.outs.length:Int))=false:=decide_eq_false (by omega)
  obtain rfl:x=p.outs.length:=by omega
  have hres:res=true:=hr.2 ⟨h1.1,h1.2,fun i hi=>hg i (by omega),oa⟩
  subst hres
  repeat' (first|((first|((with_reducible (first|apply oA|apply oB));exact rfl;intro K hK)|(refine hK _ ?_;clear hK K)|((with_reducible (first|apply oG|apply oH));iterate 3 exact rfl)|((with_reducible apply oI);(iterate 2 exact rfl);intro K hK)|(with_reducible (first|apply wI|apply wJ|apply wK)));try simp only [go_sem,simprocAttr,hb])|(with_reducible (first|apply oC|apply oJ|exact oK|apply wA|apply wB|apply wC hX hC|apply wD hX hC|apply wE hX hC af|apply wF hX hC af|apply wG|apply wH|apply And.intro))|((with_reducible refine oD ?_ ?_);kernel_rfl)|((with_reducible (first|apply oE|apply oF));(iterate 3 exact rfl);all_goals (intro h;first|(exact absurd h (by decide))|((try simp only [go_sem,simprocAttr,hb] at h);(try with_reducible intro K hK);simp only [go_sem,simprocAttr,hb])))|((first|((with_reducible apply wL);exact rfl)|((with_reducible apply wM);exact rfl));all_goals (try ((with_reducible intro h);first|(exact absurd h (by decide))|(try simp only [go_sem,simprocAttr,hb] at h))))|omega|((first|(refine au hX hC hP [(10000,52)] (cE l) rfl rfl rfl ?_ ?_ ?_ ?_ ?_ ?_ ?_ ?_ ?_ ?_ ?_ ?_ ?_ ?_;(focus (simp only [go_sem,simprocAttr,hb];done));(iterate 12 (focus (simp [go_sem,simprocAttr,hb];done)));simp only [go_sem,simprocAttr,hb,List.map_cons,List.map_nil])|(refine aV hX hC hP [(10000,52)] (b9 l hl) rfl rfl rfl ?_ ?_ ?_ ?_ ?_ ?_ rfl rfl ?_ ?_;(focus (simp only [go_sem,simprocAttr,hb];done));(iterate 6 (focus (simp [go_sem,simprocAttr,hb];done)));simp only [go_sem,simprocAttr,hb,List.map_cons,List.map_nil])|refine aa hX hC hP (iG g hm (x:Int)) rfl rfl rfl (by simp only [go_sem,simprocAttr,hb]) rfl ?_|refine aa hX hC hP (fJ (ig l) (bu (·.1) g x) (by omega)) rfl rfl rfl (by simp only [go_sem,simprocAttr,hb]) rfl ?_);try simp only [go_sem,simprocAttr,hb])|(intro h))
end Go.Ab
end
section
namespace Go.Ab
open Go.Proofs
attribute [local congr] ACall.congr
set_option maxRecDepth 10000
set_option maxHeartbeats 8000000
def nS (m:Nat) (fl:List Int):List Int:=(List.range m).map fun i:Nat=>if (i:Int)∈fl then (1:Int) else 0
theorem yF {m:Nat} {fl:List Int} :(nS m fl).length=m:=by simp [nS]
theorem Cj {m:Nat} :nS m []=List.replicate m 0:=by
 refine List.ext_getElem (by simp [nS]) fun i h1 h2=> ?_
 simp [nS]
theorem AP {m:Nat} {fl:List Int} {i:Nat} (h:i<m):(nS m fl).getD i 0=if (i:Int)∈fl then 1 else 0:=by
 simp [nS,List.getD_eq_getElem?_getD,List.getElem?_range h]
theorem En {m:Nat} {fl:List Int} {i:Nat} (h:i<m):(nS m fl).set i 1=nS m (fl++ [(i:Int)]):=by
 refine List.ext_getElem (by simp [nS]) fun j h1 h2=> ?_
 rw [List.getElem_set]
 simp only [nS,List.getElem_map,List.getElem_range,List.mem_append,List.mem_singleton]
 by_cases e:i=j
 ·subst e;simp
 ·rw [if_neg e]
  have:¬(j:Int)=(i:Int):=by omega
  simp [this]
theorem Eo {outs:List (List Int)} {x k:Nat} (hx:x<outs.length):((outs.take x).flatten++(outs.getD x []).take k).Sublist outs.flatten:=by
 have e:outs=outs.take x++outs.getD x []::outs.drop (x+1):=by
  conv=>lhs;rw [← List.take_append_drop x outs]
  congr 1
  rw [List.drop_eq_getElem_cons hx,List.getD_eq_getElem?_getD,List.getElem?_eq_getElem hx]
  rfl
 conv=>rhs;rw [e]
 rw [List.flatten_append,List.flatten_cons]
 exact List.Sublist.append (List.Sublist.refl _) ((List.take_sublist _ _).trans (List.sublist_append_left _ _))
theorem zU {l:List Int} {k:Nat} (h:k<l.length):l.take (k+1)=l.take k++ [l.getD k 0]:=by
 rw [List.take_add_one,List.getD_eq_getElem?_getD,List.getElem?_eq_getElem h];rfl
theorem pn {g:Gr} {x i:Int} :i∈bn g x↔(0≤i∧i<g.es.length)∧(g.es.getD i.toNat (0,0)).1=x:=by
 constructor
 ·exact dR
 ·rintro ⟨⟨h1,h2⟩,h3⟩
  simp only [bn,aG,List.mem_map,List.mem_filter,List.mem_range,decide_eq_true_eq]
  exact ⟨i.toNat,⟨by omega,h3⟩,by simp;omega⟩
theorem Ep (g:Gr) (hl:g.es.length≤9223372036854775807) (p:Pl) (hp:pg p) (res:Bool) (hr:res=true↔(bJ g).1=0∧bw g p):Spec Tryz.prog 117 (Args [eG g,ePl p]) [] (eB res) []:=by
 have ho:p.ord.length≤9223372036854775807:=by have:=hp.ord;omega
 have I6:=hp.outs
 by_cases hc:(bJ g).1=0
 rotate_left
 ·have hres:res=false:=by
   rw [← Bool.not_eq_true,hr]
   rintro ⟨h,_⟩
   exact hc h
  subst hres
  have an:decide ((bJ g).1=0)=false:=decide_eq_false hc
  (refine Spec.intro (C:=T.cfg [] []) (rs:= [.t 4]) (T.aj _ _) Tryz.func117 rfl rfl Tryz.ntmps117 Tryz.results117 (by simp [AObj.isNest]) (by simp [AObj.isNest]) (by kernel_rfl) ?_;intro X hX hP hC aD aF vals hA;refine ⟨_,by simp,hA, ?_⟩;have af:X.P.follows .mixedOrders=true:=(by rw [hP];exact T.mixed);clear aD aF)
  repeat' (first|((first|((with_reducible (first|apply oA|apply oB));exact rfl;intro K hK)|(refine hK _ ?_;clear hK K)|((with_reducible (first|apply oG|apply oH));iterate 3 exact rfl)|((with_reducible apply oI);(iterate 2 exact rfl);intro K hK)|(with_reducible (first|apply wI|apply wJ|apply wK)));try simp only [go_sem,simprocAttr,an])|(with_reducible (first|apply oC|apply oJ|exact oK|apply wA|apply wB|apply wC hX hC|apply wD hX hC|apply wE hX hC af|apply wF hX hC af|apply wG|apply wH|apply And.intro))|((with_reducible refine oD ?_ ?_);kernel_rfl)|((with_reducible (first|apply oE|apply oF));(iterate 3 exact rfl);all_goals (intro h;first|(exact absurd h (by decide))|((try simp only [go_sem,simprocAttr,an] at h);(try with_reducible intro K hK);simp only [go_sem,simprocAttr,an])))|((first|((with_reducible apply wL);exact rfl)|((with_reducible apply wM);exact rfl));all_goals (try ((with_reducible intro h);first|(exact absurd h (by decide))|(try simp only [go_sem,simprocAttr,an] at h))))|omega|((first|refine aa hX hC hP (aX g hl) rfl rfl rfl (by simp only [go_sem,simprocAttr,an]) rfl ?_);try simp only [go_sem,simprocAttr,an])|(intro h))
 have an:decide ((bJ g).1=0)=true:=decide_eq_true hc
 have hm:=aA hc
 have hn:=aT hm
 have hr:res=true↔bw g p:=by rw [hr];exact ⟨fun h=>h.2,fun h=>⟨hc,h⟩⟩
 rw [← AN hm] at hr
 by_cases he:fU p.ord g.n=true∧p.outs.length=g.n.toNat
 rotate_left
 ·have hres:res=false:=by
   rw [← Bool.not_eq_true,hr]
   rintro ⟨h2,h3,_⟩
   exact he ⟨h2,h3⟩
  subst hres
  cases h2:fU p.ord g.n with
  |false=>
   (refine Spec.intro (C:=T.cfg [] []) (rs:= [.t 4]) (T.aj _ _) Tryz.func117 rfl rfl Tryz.ntmps117 Tryz.results117 (by simp [AObj.isNest]) (by simp [AObj.isNest]) (by kernel_rfl) ?_;intro X hX hP hC aD aF vals hA;refine ⟨_,by simp,hA, ?_⟩;have af:X.P.follows .mixedOrders=true:=(by rw [hP];exact T.mixed);clear aD aF)
   repeat' (first|((first|((with_reducible (first|apply oA|apply oB));exact rfl;intro K hK)|(refine hK _ ?_;clear hK K)|((with_reducible (first|apply oG|apply oH));iterate 3 exact rfl)|((with_reducible apply oI);(iterate 2 exact rfl);intro K hK)|(with_reducible (first|apply wI|apply wJ|apply wK)));try simp only [go_sem,simprocAttr,an,h2])|(with_reducible (first|apply oC|apply oJ|exact oK|apply wA|apply wB|apply wC hX hC|apply wD hX hC|apply wE hX hC af|apply wF hX hC af|apply wG|apply wH|apply And.intro))|((with_reducible refine oD ?_ ?_);kernel_rfl)|((with_reducible (first|apply oE|apply oF));(iterate 3 exact rfl);all_goals (intro h;first|(exact absurd h (by decide))|((try simp only [go_sem,simprocAttr,an,h2] at h);(try with_reducible intro K hK);simp only [go_sem,simprocAttr,an,h2])))|((first|((with_reducible apply wL);exact rfl)|((with_reducible apply wM);exact rfl));all_goals (try ((with_reducible intro h);first|(exact absurd h (by decide))|(try simp only [go_sem,simprocAttr,an,h2] at h))))|omega|((first|refine aa hX hC hP (aX g hl) rfl rfl rfl (by simp only [go_sem,simprocAttr,an,h2]) rfl ?_|refine aa hX hC hP (cw p.ord g.n ho) rfl rfl rfl (by simp only [go_sem,simprocAttr,an,h2]) rfl ?_);try simp only [go_sem,simprocAttr,an,h2])|(intro h))
  |true=>
   have ak:decide ((p.outs.length:Int)=g.n)=false:=decide_eq_false fun h3=>he ⟨h2,by omega⟩
   (refine Spec.intro (C:=T.cfg [] []) (rs:= [.t 4]) (T.aj _ _) Tryz.func117 rfl rfl Tryz.ntmps117 Tryz.results117 (by simp [AObj.isNest]) (by simp [AObj.isNest]) (by kernel_rfl) ?_;intro X hX hP hC aD aF vals hA;refine ⟨_,by simp,hA, ?_⟩;have af:X.P.follows .mixedOrders=true:=(by rw [hP];exact T.mixed);clear aD aF)
   repeat' (first|((first|((with_reducible (first|apply oA|apply oB));exact rfl;intro K hK)|(refine hK _ ?_;clear hK K)|((with_reducible (first|apply oG|apply oH));iterate 3 exact rfl)|((with_reducible apply oI);(iterate 2 exact rfl);intro K hK)|(with_reducible (first|apply wI|apply wJ|apply wK)));try simp only [go_sem,simprocAttr,an,h2,ak])|(with_reducible (first|apply oC|apply oJ|exact oK|apply wA|apply wB|apply wC hX hC|apply wD hX hC|apply wE hX hC af|apply wF hX hC af|apply wG|apply wH|apply And.intro))|((with_reducible refine oD ?_ ?_);kernel_rfl)|((with_reducible (first|apply oE|apply oF));(iterate 3 exact rfl);all_goals (intro h;first|(exact absurd h (by decide))|((try simp only [go_sem,simprocAttr,an,h2,ak] at h);(try with_reducible intro K hK);simp only [go_sem,simprocAttr,an,h2,ak])))|((first|((with_reducible apply wL);exact rfl)|((with_reducible apply wM);exact rfl));all_goals (try ((with_reducible intro h);first|(exact absurd h (by decide))|(try simp only [go_sem,simprocAttr,an,h2,ak] at h))))|omega|((first|refine aa hX hC hP (aX g hl) rfl rfl rfl (by simp only [go_sem,simprocAttr,an,h2,ak]) rfl ?_|refine aa hX hC hP (cw p.ord g.n ho) rfl rfl rfl (by simp only [go_sem,simprocAttr,an,h2,ak]) rfl ?_);try simp only [go_sem,simprocAttr,an,h2,ak])|(intro h))
 obtain ⟨om,xo⟩:=he
 have ak:decide ((p.outs.length:Int)=g.n)=true:=decide_eq_true (by omega)
 (refine Spec.intro (C:=T.cfg [] []) (rs:= [.t 4]) (T.aj _ _) Tryz.func117 rfl rfl Tryz.ntmps117 Tryz.results117 (by simp [AObj.isNest]) (by simp [AObj.isNest]) (by kernel_rfl) ?_;intro X hX hP hC aD aF vals hA;refine ⟨_,by simp,hA, ?_⟩;have af:X.P.follows .mixedOrders=true:=(by rw [hP];exact T.mixed);clear aD aF)
 repeat' (first|((first|((with_reducible (first|apply oA|apply oB));exact rfl;intro K hK)|(refine hK _ ?_;clear hK K)|((with_reducible (first|apply oG|apply oH));iterate 3 exact rfl)|((with_reducible apply oI);(iterate 2 exact rfl);intro K hK)|(with_reducible (first|apply wI|apply wJ|apply wK)));try simp only [go_sem,simprocAttr,an,om,ak])|(with_reducible (first|apply oC|apply oJ|exact oK|apply wA|apply wB|apply wC hX hC|apply wD hX hC|apply wE hX hC af|apply wF hX hC af|apply wG|apply wH|apply And.intro))|((with_reducible refine oD ?_ ?_);kernel_rfl)|((with_reducible (first|apply oE|apply oF));(iterate 3 exact rfl);all_goals (intro h;first|(exact absurd h (by decide))|((try simp only [go_sem,simprocAttr,an,om,ak] at h);(try with_reducible intro K hK);simp only [go_sem,simprocAttr,an,om,ak])))|((first|((with_reducible apply wL);exact rfl)|((with_reducible apply wM);exact rfl));all_goals (try ((with_reducible intro h);first|(exact absurd h (by decide))|(try simp only [go_sem,simprocAttr,an,om,ak] at h))))|omega|((first|refine aa hX hC hP (aX g hl) rfl rfl rfl (by simp only [go_sem,simprocAttr,an,om,ak]) rfl ?_|refine aa hX hC hP (cw p.ord g.n ho) rfl rfl rfl (by simp only [go_sem,simprocAttr,an,om,ak]) rfl ?_);try simp only [go_sem,simprocAttr,an,om,ak])|(intro h))
 clear an ak
 have tI:List.replicate g.es.length [D.sc (.int .i64 0)]=(nS g.es.length []).map rI:=by rw [Cj,List.map_replicate];rfl
 rw [tI]
 clear tI
 refine ah (fun x:Nat=>x≤p.outs.length∧(p.outs.take x).flatten.Nodup∧∀y:Nat,y<x→∀i∈p.outs.getD y [],i∈bn g y) (fun x=>⟨[(2, .ptr 2 0),(3, .ptr 3 0),(5, .ref 32),(6,eN x)], [(32, .own 3 1 ((nS g.es.length (p.outs.take x).flatten).map rI)),(3, .box [.d (sI p.ord), .d (.sl 1 (vI p.outs))]),(2, .box [eN g.n, .d (sE g.es)])]⟩) (fun x=>p.outs.length - x) 0 (by simp) ?_ ?_
 ·refine Le.of ?_ ?_<;>simp [go_sem,simprocAttr]
 rintro x ⟨hx,b7,oa⟩
 rcases Nat.lt_or_ge x p.outs.length with hxl|Em
 ·have hb:decide ((x:Int)<(p.outs.length:Int))=true:=decide_eq_true (by omega)
  have hv:=kK hxl
  have hle:=hp.each _ (aS (d:= []) hxl)
  have hpre:=fun k=>Eo (k:=k) hxl
  have hnext:(p.outs.take (x+1)).flatten=(p.outs.take x).flatten++p.outs.getD x []:=by
   rw [List.take_add_one,List.flatten_append,List.getD_eq_getElem?_getD,List.getElem?_eq_getElem hxl];simp
  have jb:∀i∈p.outs.getD x [],i∉bn g x→res=false:=fun i hi hn=>by
   rw [← Bool.not_eq_true,hr]
   rintro ⟨_,_,h3,_⟩
   exact hn (h3 x hxl i hi)
  have uD:∀k,¬((p.outs.take x).flatten++(p.outs.getD x []).take k).Nodup→res=false:=fun k hn=>by
   rw [← Bool.not_eq_true,hr]
   rintro ⟨_,_,_,h4,_⟩
   exact hn (List.Nodup.sublist (hpre k) h4)
  have CM:(∀i∈p.outs.getD x [],i∈bn g x)→∀y:Nat,y<x+1→∀i∈p.outs.getD y [],i∈bn g y:=fun h y hy=>by
   by_cases e:y=x
   ·subst e;exact h
   ·exact oa y (by omega)
  generalize p.outs.getD x []=l at hv hle hpre hnext jb uD CM
  generalize (p.outs.take x).flatten=fl at b7 hpre hnext uD
  clear hpre
  repeat' (first|((first|((with_reducible (first|apply oA|apply oB));exact rfl;intro K hK)|(refine hK _ ?_;clear hK K)|((with_reducible (first|apply oG|apply oH));iterate 3 exact rfl)|((with_reducible apply oI);(iterate 2 exact rfl);intro K hK)|(with_reducible (first|apply wI|apply wJ|apply wK)));try simp only [go_sem,simprocAttr,hb,hv])|(with_reducible (first|apply oC|apply oJ|exact oK|apply wA|apply wB|apply wC hX hC|apply wD hX hC|apply wE hX hC af|apply wF hX hC af|apply wG|apply wH|apply And.intro))|((with_reducible refine oD ?_ ?_);kernel_rfl)|((with_reducible (first|apply oE|apply oF));(iterate 3 exact rfl);all_goals (intro h;first|(exact absurd h (by decide))|((try simp only [go_sem,simprocAttr,hb,hv] at h);(try with_reducible intro K hK);simp only [go_sem,simprocAttr,hb,hv])))|((first|((with_reducible apply wL);exact rfl)|((with_reducible apply wM);exact rfl));all_goals (try ((with_reducible intro h);first|(exact absurd h (by decide))|(try simp only [go_sem,simprocAttr,hb,hv] at h))))|omega|((first|refine aa hX hC hP (aX g hl) rfl rfl rfl (by simp only [go_sem,simprocAttr,hb,hv]) rfl ?_|refine aa hX hC hP (cw p.ord g.n ho) rfl rfl rfl (by simp only [go_sem,simprocAttr,hb,hv]) rfl ?_);try simp only [go_sem,simprocAttr,hb,hv])|(intro h))
  clear hb
  refine ah (fun k:Nat=>k≤l.length∧(fl++l.take k).Nodup∧∀i∈l.take k,i∈bn g x) (fun k=>⟨[(2, .ptr 2 0),(3, .ptr 3 0),(5, .ref 32),(6,eN x),(7,eN k)], [(32, .own 3 1 ((nS g.es.length (fl++l.take k)).map rI)),(3, .box [.d (sI p.ord), .d (.sl 1 (vI p.outs))]),(2, .box [eN g.n, .d (sE g.es)])]⟩) (fun k=>l.length - k) 0 (by simpa using b7) ?_ ?_
  ·refine Le.of ?_ ?_<;>simp [go_sem,simprocAttr]
  rintro k ⟨hk,Bv,IV⟩
  rcases Nat.lt_or_ge k l.length with bT|An
  ·have hbk:decide ((k:Int)<(l.length:Int))=true:=decide_eq_true (by omega)
   have ru:=zU bT
   have him:=aS (d:=0) bT
   have dB:=yF (m:=g.es.length) (fl:=fl++l.take k)
   generalize hi:l.getD k 0=i at ru him
   by_cases h0:i<0
   ·have hres:=jb i him (fun h=>by have:=(pn.1 h).1;omega)
    subst hres
    have an:decide (i<0)=true:=decide_eq_true h0
    repeat' (first|((first|((with_reducible (first|apply oA|apply oB));exact rfl;intro K hK)|(refine hK _ ?_;clear hK K)|((with_reducible (first|apply oG|apply oH));iterate 3 exact rfl)|((with_reducible apply oI);(iterate 2 exact rfl);intro K hK)|(with_reducible (first|apply wI|apply wJ|apply wK)));try simp only [go_sem,simprocAttr,hbk,hv,hi,an])|(with_reducible (first|apply oC|apply oJ|exact oK|apply wA|apply wB|apply wC hX hC|apply wD hX hC|apply wE hX hC af|apply wF hX hC af|apply wG|apply wH|apply And.intro))|((with_reducible refine oD ?_ ?_);kernel_rfl)|((with_reducible (first|apply oE|apply oF));(iterate 3 exact rfl);all_goals (intro h;first|(exact absurd h (by decide))|((try simp only [go_sem,simprocAttr,hbk,hv,hi,an] at h);(try with_reducible intro K hK);simp only [go_sem,simprocAttr,hbk,hv,hi,an])))|((first|((with_reducible apply wL);exact rfl)|((with_reducible apply wM);exact rfl));all_goals (try ((with_reducible intro h);first|(exact absurd h (by decide))|(try simp only [go_sem,simprocAttr,hbk,hv,hi,an] at h))))|omega|((first|refine aa hX hC hP (aX g hl) rfl rfl rfl (by simp only [go_sem,simprocAttr,hbk,hv,hi,an]) rfl ?_|refine aa hX hC hP (cw p.ord g.n ho) rfl rfl rfl (by simp only [go_sem,simprocAttr,hbk,hv,hi,an]) rfl ?_);try simp only [go_sem,simprocAttr,hbk,hv,hi,an])|(intro h))
   have an:decide (i<0)=false:=decide_eq_false h0
   by_cases h1:(g.es.length:Int)≤i
   ·have hres:=jb i him (fun h=>by have:=(pn.1 h).1;omega)
    subst hres
    have ak:decide ((g.es.length:Int)≤i)=true:=decide_eq_true h1
    repeat' (first|((first|((with_reducible (first|apply oA|apply oB));exact rfl;intro K hK)|(refine hK _ ?_;clear hK K)|((with_reducible (first|apply oG|apply oH));iterate 3 exact rfl)|((with_reducible apply oI);(iterate 2 exact rfl);intro K hK)|(with_reducible (first|apply wI|apply wJ|apply wK)));try simp only [go_sem,simprocAttr,hbk,hv,hi,an,ak,dB])|(with_reducible (first|apply oC|apply oJ|exact oK|apply wA|apply wB|apply wC hX hC|apply wD hX hC|apply wE hX hC af|apply wF hX hC af|apply wG|apply wH|apply And.intro))|((with_reducible refine oD ?_ ?_);kernel_rfl)|((with_reducible (first|apply oE|apply oF));(iterate 3 exact rfl);all_goals (intro h;first|(exact absurd h (by decide))|((try simp only [go_sem,simprocAttr,hbk,hv,hi,an,ak,dB] at h);(try with_reducible intro K hK);simp only [go_sem,simprocAttr,hbk,hv,hi,an,ak,dB])))|((first|((with_reducible apply wL);exact rfl)|((with_reducible apply wM);exact rfl));all_goals (try ((with_reducible intro h);first|(exact absurd h (by decide))|(try simp only [go_sem,simprocAttr,hbk,hv,hi,an,ak,dB] at h))))|omega|((first|refine aa hX hC hP (aX g hl) rfl rfl rfl (by simp only [go_sem,simprocAttr,hbk,hv,hi,an,ak,dB]) rfl ?_|refine aa hX hC hP (cw p.ord g.n ho) rfl rfl rfl (by simp only [go_sem,simprocAttr,hbk,hv,hi,an,ak,dB]) rfl ?_);try simp only [go_sem,simprocAttr,hbk,hv,hi,an,ak,dB])|(intro h))
   have ak:decide ((g.es.length:Int)≤i)=false:=decide_eq_false h1
   obtain ⟨e,rfl⟩:∃e:Nat,i=e:=⟨i.toNat,by omega⟩
   have hel:e<g.es.length:=by omega
   by_cases h2:(g.es.getD e (0,0)).1=x
   rotate_left
   ·have hres:=jb _ him (fun h=>h2 (by have:=(pn.1 h).2;rwa [Int.toNat_natCast] at this))
    subst hres
    have bI:decide ((g.es.getD e (0,0)).1=(x:Int))=false:=decide_eq_false h2
    repeat' (first|((first|((with_reducible (first|apply oA|apply oB));exact rfl;intro K hK)|(refine hK _ ?_;clear hK K)|((with_reducible (first|apply oG|apply oH));iterate 3 exact rfl)|((with_reducible apply oI);(iterate 2 exact rfl);intro K hK)|(with_reducible (first|apply wI|apply wJ|apply wK)));try simp only [go_sem,simprocAttr,hbk,hv,hi,an,ak,bI,dB])|(with_reducible (first|apply oC|apply oJ|exact oK|apply wA|apply wB|apply wC hX hC|apply wD hX hC|apply wE hX hC af|apply wF hX hC af|apply wG|apply wH|apply And.intro))|((with_reducible refine oD ?_ ?_);kernel_rfl)|((with_reducible (first|apply oE|apply oF));(iterate 3 exact rfl);all_goals (intro h;first|(exact absurd h (by decide))|((try simp only [go_sem,simprocAttr,hbk,hv,hi,an,ak,bI,dB] at h);(try with_reducible intro K hK);simp only [go_sem,simprocAttr,hbk,hv,hi,an,ak,bI,dB])))|((first|((with_reducible apply wL);exact rfl)|((with_reducible apply wM);exact rfl));all_goals (try ((with_reducible intro h);first|(exact absurd h (by decide))|(try simp only [go_sem,simprocAttr,hbk,hv,hi,an,ak,bI,dB] at h))))|omega|((first|refine aa hX hC hP (aX g hl) rfl rfl rfl (by simp only [go_sem,simprocAttr,hbk,hv,hi,an,ak,bI,dB]) rfl ?_|refine aa hX hC hP (cw p.ord g.n ho) rfl rfl rfl (by simp only [go_sem,simprocAttr,hbk,hv,hi,an,ak,bI,dB]) rfl ?_);try simp only [go_sem,simprocAttr,hbk,hv,hi,an,ak,bI,dB])|(intro h))
   have bI:decide ((g.es.getD e (0,0)).1=(x:Int))=true:=decide_eq_true h2
   have hct:=AP (fl:=fl++l.take k) hel
   by_cases h3:(e:Int)∈fl++l.take k
   ·have hres:=uD (k+1) (fun h=>by
     rw [ru, ← List.append_assoc,List.nodup_append] at h
     exact h.2.2 _ h3 _ (List.mem_singleton.2 rfl) rfl)
    subst hres
    rw [if_pos h3] at hct
    repeat' (first|((first|((with_reducible (first|apply oA|apply oB));exact rfl;intro K hK)|(refine hK _ ?_;clear hK K)|((with_reducible (first|apply oG|apply oH));iterate 3 exact rfl)|((with_reducible apply oI);(iterate 2 exact rfl);intro K hK)|(with_reducible (first|apply wI|apply wJ|apply wK)));try simp only [go_sem,simprocAttr,hbk,hv,hi,an,ak,bI,dB,hct])|(with_reducible (first|apply oC|apply oJ|exact oK|apply wA|apply wB|apply wC hX hC|apply wD hX hC|apply wE hX hC af|apply wF hX hC af|apply wG|apply wH|apply And.intro))|((with_reducible refine oD ?_ ?_);kernel_rfl)|((with_reducible (first|apply oE|apply oF));(iterate 3 exact rfl);all_goals (intro h;first|(exact absurd h (by decide))|((try simp only [go_sem,simprocAttr,hbk,hv,hi,an,ak,bI,dB,hct] at h);(try with_reducible intro K hK);simp only [go_sem,simprocAttr,hbk,hv,hi,an,ak,bI,dB,hct])))|((first|((with_reducible apply wL);exact rfl)|((with_reducible apply wM);exact rfl));all_goals (try ((with_reducible intro h);first|(exact absurd h (by decide))|(try simp only [go_sem,simprocAttr,hbk,hv,hi,an,ak,bI,dB,hct] at h))))|omega|((first|refine aa hX hC hP (aX g hl) rfl rfl rfl (by simp only [go_sem,simprocAttr,hbk,hv,hi,an,ak,bI,dB,hct]) rfl ?_|refine aa hX hC hP (cw p.ord g.n ho) rfl rfl rfl (by simp only [go_sem,simprocAttr,hbk,hv,hi,an,ak,bI,dB,hct]) rfl ?_);try simp only [go_sem,simprocAttr,hbk,hv,hi,an,ak,bI,dB,hct])|(intro h))
   ·rw [if_neg h3] at hct
    have cz:=En (fl:=fl++l.take k) hel
    rw [List.append_assoc, ← ru] at cz
    repeat' (first|((first|((with_reducible (first|apply oA|apply oB));exact rfl;intro K hK)|(refine hK _ ?_;clear hK K)|((with_reducible (first|apply oG|apply oH));iterate 3 exact rfl)|((with_reducible apply oI);(iterate 2 exact rfl);intro K hK)|(with_reducible (first|apply wI|apply wJ|apply wK)));try simp only [go_sem,simprocAttr,hbk,hv,hi,an,ak,bI,dB,hct])|(with_reducible (first|apply oC|apply oJ|exact oK|apply wA|apply wB|apply wC hX hC|apply wD hX hC|apply wE hX hC af|apply wF hX hC af|apply wG|apply wH|apply And.intro))|((with_reducible refine oD ?_ ?_);kernel_rfl)|((with_reducible (first|apply oE|apply oF));(iterate 3 exact rfl);all_goals (intro h;first|(exact absurd h (by decide))|((try simp only [go_sem,simprocAttr,hbk,hv,hi,an,ak,bI,dB,hct] at h);(try with_reducible intro K hK);simp only [go_sem,simprocAttr,hbk,hv,hi,an,ak,bI,dB,hct])))|((first|((with_reducible apply wL);exact rfl)|((with_reducible apply wM);exact rfl));all_goals (try ((with_reducible intro h);first|(exact absurd h (by decide))|(try simp only [go_sem,simprocAttr,hbk,hv,hi,an,ak,bI,dB,hct] at h))))|omega|((first|refine aa hX hC hP (aX g hl) rfl rfl rfl (by simp only [go_sem,simprocAttr,hbk,hv,hi,an,ak,bI,dB,hct]) rfl ?_|refine aa hX hC hP (cw p.ord g.n ho) rfl rfl rfl (by simp only [go_sem,simprocAttr,hbk,hv,hi,an,ak,bI,dB,hct]) rfl ?_);try simp only [go_sem,simprocAttr,hbk,hv,hi,an,ak,bI,dB,hct])|(intro h))
    refine ⟨k+1,⟨by omega, ?_, ?_⟩, ?_,by omega⟩
    ·rw [ru, ← List.append_assoc,List.nodup_append]
     exact ⟨Bv,by simp,fun a ha b hb h=>h3 (by rw [List.mem_singleton] at hb;rw [← hb, ← h];exact ha)⟩
    ·intro j hj
     rw [ru,List.mem_append,List.mem_singleton] at hj
     rcases hj with hj|rfl
     ·exact IV j hj
     ·exact pn.2 ⟨⟨by omega,by omega⟩,by rw [Int.toNat_natCast];exact h2⟩
    ·rw [← cz]
     refine Le.of ?_ ?_<;>simp [go_sem,simprocAttr,hbk,hv,hi,an,ak,bI,dB,hct,rI]
  ·have hbk:decide ((k:Int)<(l.length:Int))=false:=decide_eq_false (by omega)
   obtain rfl:k=l.length:=by omega
   rw [List.take_length] at Bv IV
   repeat' (first|((first|((with_reducible (first|apply oA|apply oB));exact rfl;intro K hK)|(refine hK _ ?_;clear hK K)|((with_reducible (first|apply oG|apply oH));iterate 3 exact rfl)|((with_reducible apply oI);(iterate 2 exact rfl);intro K hK)|(with_reducible (first|apply wI|apply wJ|apply wK)));try simp only [go_sem,simprocAttr,hbk,hv])|(with_reducible (first|apply oC|apply oJ|exact oK|apply wA|apply wB|apply wC hX hC|apply wD hX hC|apply wE hX hC af|apply wF hX hC af|apply wG|apply wH|apply And.intro))|((with_reducible refine oD ?_ ?_);kernel_rfl)|((with_reducible (first|apply oE|apply oF));(iterate 3 exact rfl);all_goals (intro h;first|(exact absurd h (by decide))|((try simp only [go_sem,simprocAttr,hbk,hv] at h);(try with_reducible intro K hK);simp only [go_sem,simprocAttr,hbk,hv])))|((first|((with_reducible apply wL);exact rfl)|((with_reducible apply wM);exact rfl));all_goals (try ((with_reducible intro h);first|(exact absurd h (by decide))|(try simp only [go_sem,simprocAttr,hbk,hv] at h))))|omega|((first|refine aa hX hC hP (aX g hl) rfl rfl rfl (by simp only [go_sem,simprocAttr,hbk,hv]) rfl ?_|refine aa hX hC hP (cw p.ord g.n ho) rfl rfl rfl (by simp only [go_sem,simprocAttr,hbk,hv]) rfl ?_);try simp only [go_sem,simprocAttr,hbk,hv])|(intro h))
   refine ⟨x+1,⟨by omega,by rw [hnext];exact Bv,CM IV⟩, ?_,by omega⟩
   rw [hnext]
   refine Le.of ?_ ?_<;>simp [go_sem,simprocAttr,hbk,hv]
 have hb:decide ((x:Int)<(p.outs.length:Int))=false:=decide_eq_false (by omega)
 obtain rfl:x=p.outs.length:=by omega
 rw [List.take_length] at b7
 rw [List.take_length]
 have dB:=yF (m:=g.es.length) (fl:=p.outs.flatten)
 repeat' (first|((first|((with_reducible (first|apply oA|apply oB));exact rfl;intro K hK)|(refine hK _ ?_;clear hK K)|((with_reducible (first|apply oG|apply oH));iterate 3 exact rfl)|((with_reducible apply oI);(iterate 2 exact rfl);intro K hK)|(with_reducible (first|apply wI|apply wJ|apply wK)));try simp only [go_sem,simprocAttr,hb])|(with_reducible (first|apply oC|apply oJ|exact oK|apply wA|apply wB|apply wC hX hC|apply wD hX hC|apply wE hX hC af|apply wF hX hC af|apply wG|apply wH|apply And.intro))|((with_reducible refine oD ?_ ?_);kernel_rfl)|((with_reducible (first|apply oE|apply oF));(iterate 3 exact rfl);all_goals (intro h;first|(exact absurd h (by decide))|((try simp only [go_sem,simprocAttr,hb] at h);(try with_reducible intro K hK);simp only [go_sem,simprocAttr,hb])))|((first|((with_reducible apply wL);exact rfl)|((with_reducible apply wM);exact rfl));all_goals (try ((with_reducible intro h);first|(exact absurd h (by decide))|(try simp only [go_sem,simprocAttr,hb] at h))))|omega|((first|refine aa hX hC hP (aX g hl) rfl rfl rfl (by simp only [go_sem,simprocAttr,hb]) rfl ?_|refine aa hX hC hP (cw p.ord g.n ho) rfl rfl rfl (by simp only [go_sem,simprocAttr,hb]) rfl ?_);try simp only [go_sem,simprocAttr,hb])|(intro h))
 clear hb
 refine ah (fun k:Nat=>k≤g.es.length∧∀i:Nat,i<k→(i:Int)∈p.outs.flatten) (fun k=>⟨[(5, .ref 32),(9,eN k)], [(32, .own 3 1 ((nS g.es.length p.outs.flatten).map rI))]⟩) (fun k=>g.es.length - k) 0 (by simp) ?_ ?_
 ·refine Le.of ?_ ?_<;>simp [go_sem,simprocAttr]
 rintro k ⟨hk,IV⟩
 rcases Nat.lt_or_ge k g.es.length with bT|An
 ·have hbk:decide ((k:Int)<(g.es.length:Int))=true:=decide_eq_true (by omega)
  have hct:=AP (fl:=p.outs.flatten) bT
  by_cases h3:(k:Int)∈p.outs.flatten
  ·rw [if_pos h3] at hct
   repeat' (first|((first|((with_reducible (first|apply oA|apply oB));exact rfl;intro K hK)|(refine hK _ ?_;clear hK K)|((with_reducible (first|apply oG|apply oH));iterate 3 exact rfl)|((with_reducible apply oI);(iterate 2 exact rfl);intro K hK)|(with_reducible (first|apply wI|apply wJ|apply wK)));try simp only [go_sem,simprocAttr,hbk,dB,hct])|(with_reducible (first|apply oC|apply oJ|exact oK|apply wA|apply wB|apply wC hX hC|apply wD hX hC|apply wE hX hC af|apply wF hX hC af|apply wG|apply wH|apply And.intro))|((with_reducible refine oD ?_ ?_);kernel_rfl)|((with_reducible (first|apply oE|apply oF));(iterate 3 exact rfl);all_goals (intro h;first|(exact absurd h (by decide))|((try simp only [go_sem,simprocAttr,hbk,dB,hct] at h);(try with_reducible intro K hK);simp only [go_sem,simprocAttr,hbk,dB,hct])))|((first|((with_reducible apply wL);exact rfl)|((with_reducible apply wM);exact rfl));all_goals (try ((with_reducible intro h);first|(exact absurd h (by decide))|(try simp only [go_sem,simprocAttr,hbk,dB,hct] at h))))|omega|((first|refine aa hX hC hP (aX g hl) rfl rfl rfl (by simp only [go_sem,simprocAttr,hbk,dB,hct]) rfl ?_|refine aa hX hC hP (cw p.ord g.n ho) rfl rfl rfl (by simp only [go_sem,simprocAttr,hbk,dB,hct]) rfl ?_);try simp only [go_sem,simprocAttr,hbk,dB,hct])|(intro h))
   refine ⟨k+1,⟨by omega,fun i hi=> ?_⟩, ?_,by omega⟩
   ·by_cases e:i=k
    ·subst e;exact h3
    ·exact IV i (by omega)
   ·(refine Le.of ?_ ?_<;>simp [go_sem,simprocAttr,hbk,dB,hct])
  ·rw [if_neg h3] at hct
   have hres:res=false:=by
    rw [← Bool.not_eq_true,hr]
    rintro ⟨_,_,_,_,h5⟩
    exact h3 (h5 k bT)
   subst hres
   repeat' (first|((first|((with_reducible (first|apply oA|apply oB));exact rfl;intro K hK)|(refine hK _ ?_;clear hK K)|((with_reducible (first|apply oG|apply oH));iterate 3 exact rfl)|((with_reducible apply oI);(iterate 2 exact rfl);intro K hK)|(with_reducible (first|apply wI|apply wJ|apply wK)));try simp only [go_sem,simprocAttr,hbk,dB,hct])|(with_reducible (first|apply oC|apply oJ|exact oK|apply wA|apply wB|apply wC hX hC|apply wD hX hC|apply wE hX hC af|apply wF hX hC af|apply wG|apply wH|apply And.intro))|((with_reducible refine oD ?_ ?_);kernel_rfl)|((with_reducible (first|apply oE|apply oF));(iterate 3 exact rfl);all_goals (intro h;first|(exact absurd h (by decide))|((try simp only [go_sem,simprocAttr,hbk,dB,hct] at h);(try with_reducible intro K hK);simp only [go_sem,simprocAttr,hbk,dB,hct])))|((first|((with_reducible apply wL);exact rfl)|((with_reducible apply wM);exact rfl));all_goals (try ((with_reducible intro h);first|(exact absurd h (by decide))|(try simp only [go_sem,simprocAttr,hbk,dB,hct] at h))))|omega|((first|refine aa hX hC hP (aX g hl) rfl rfl rfl (by simp only [go_sem,simprocAttr,hbk,dB,hct]) rfl ?_|refine aa hX hC hP (cw p.ord g.n ho) rfl rfl rfl (by simp only [go_sem,simprocAttr,hbk,dB,hct]) rfl ?_);try simp only [go_sem,simprocAttr,hbk,dB,hct])|(intro h))
 ·have hbk:decide ((k:Int)<(g.es.length:Int))=false:=decide_eq_false (by omega)
  obtain rfl:k=g.es.length:=by omega
  have hres:res=true:=hr.2 ⟨om,xo,oa,b7,IV⟩
  subst hres
  repeat' (first|((first|((with_reducible (first|apply oA|apply oB));exact rfl;intro K hK)|(refine hK _ ?_;clear hK K)|((with_reducible (first|apply oG|apply oH));iterate 3 exact rfl)|((with_reducible apply oI);(iterate 2 exact rfl);intro K hK)|(with_reducible (first|apply wI|apply wJ|apply wK)));try simp only [go_sem,simprocAttr,hbk,dB])|(with_reducible (first|apply oC|apply oJ|exact oK|apply wA|apply wB|apply wC hX hC|apply wD hX hC|apply wE hX hC af|apply wF hX hC af|apply wG|apply wH|apply And.intro))|((with_reducible refine oD ?_ ?_);kernel_rfl)|((with_reducible (first|apply oE|apply oF));(iterate 3 exact rfl);all_goals (intro h;first|(exact absurd h (by decide))|((try simp only [go_sem,simprocAttr,hbk,dB] at h);(try with_reducible intro K hK);simp only [go_sem,simprocAttr,hbk,dB])))|((first|((with_reducible apply wL);exact rfl)|((with_reducible apply wM);exact rfl));all_goals (try ((with_reducible intro h);first|(exact absurd h (by decide))|(try simp only [go_sem,simprocAttr,hbk,dB] at h))))|omega|((first|refine aa hX hC hP (aX g hl) rfl rfl rfl (by simp only [go_sem,simprocAttr,hbk,dB]) rfl ?_|refine aa hX hC hP (cw p.ord g.n ho) rfl rfl rfl (by simp only [go_sem,simprocAttr,hbk,dB]) rfl ?_);try simp only [go_sem,simprocAttr,hbk,dB])|(intro h))
end Go.Ab
end
