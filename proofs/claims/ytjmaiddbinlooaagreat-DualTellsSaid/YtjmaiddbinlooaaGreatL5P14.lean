/- A part of the proof. -/
import Derived.Test.YtjmaiddbinlooaaGreatL5P13
set_option linter.unusedSimpArgs false
set_option linter.unusedVariables false
section
namespace Go.Ab
open Go.Proofs
attribute [local congr] ACall.congr
set_option maxRecDepth 10000
set_option maxHeartbeats 4000000
theorem bk (ps:List Int) (x:Int) (hl:ps.length≤9223372036854775807):Spec Tryz.prog 142 (Args [.d (sI ps),eN x]) [] (eB (decide (x∈ps))) []:=by
 (refine Spec.intro (C:=T.cfg [] []) (rs:= [.t 4]) (T.aq _ _) Tryz.func142 rfl rfl Tryz.ntmps142 Tryz.results142 (by simp [AObj.isNest]) (by simp [AObj.isNest]) (by kernel_rfl) ?_;intro X hX hP hC aN aO vals hA;refine ⟨_,by simp,hA, ?_⟩;have af:X.P.follows .mixedOrders=true:=(by rw [hP];exact T.mixed);clear aN aO)
 repeat' (first|fail|((first|((with_reducible (first|apply oA|apply oB));exact rfl;intro K hK)|(refine hK _ ?_;clear hK K)|((with_reducible (first|apply oG|apply oH));iterate 3 exact rfl)|((with_reducible apply oI);(iterate 2 exact rfl);intro K hK)|(with_reducible (first|apply wI|apply wJ|apply wK)));try simp only [go_sem,simprocAttr])|fail|(with_reducible (first|apply oC|apply oJ|exact oK|apply wA|apply wB|apply wC hX hC|apply wD hX hC|apply wE hX hC af|apply wF hX hC af|apply wG|apply wH|apply And.intro))|((with_reducible refine oD ?_ ?_);first|fail|kernel_rfl)|((with_reducible (first|apply oE|apply oF));(iterate 3 exact rfl);all_goals (intro h;first|(exact absurd h (by decide))|((try simp only [go_sem,simprocAttr] at h);(try with_reducible intro K hK);simp only [go_sem,simprocAttr])))|((first|((with_reducible apply wL);exact rfl)|((with_reducible apply wM);exact rfl));all_goals (try ((with_reducible intro h);first|(exact absurd h (by decide))|(try simp only [go_sem,simprocAttr] at h))))|omega|((first|fail);try simp only [go_sem,simprocAttr])|(intro h))
 refine ak (fun k:Nat=>k≤ps.length∧∀j,j<k→ps.getD j 0≠x) (fun k=>⟨[(0, .d (sI ps)),(1,eN x),(5,eN k)], []⟩) (fun k=>ps.length - k) 0 (by simp) ?_ ?_
 ·(refine ⟨bN ?_,fun _ _ h=>h⟩;simp [go_sem,simprocAttr])
 rintro k ⟨hk,hg⟩
 rcases Nat.lt_or_ge k ps.length with hlt|hge
 ·have hb:decide ((k:Int)<(ps.length:Int))=true:=decide_eq_true (by omega)
  repeat' (first|fail|((first|((with_reducible (first|apply oA|apply oB));exact rfl;intro K hK)|(refine hK _ ?_;clear hK K)|((with_reducible (first|apply oG|apply oH));iterate 3 exact rfl)|((with_reducible apply oI);(iterate 2 exact rfl);intro K hK)|(with_reducible (first|apply wI|apply wJ|apply wK)));try simp only [go_sem,simprocAttr,hb])|fail|(with_reducible (first|apply oC|apply oJ|exact oK|apply wA|apply wB|apply wC hX hC|apply wD hX hC|apply wE hX hC af|apply wF hX hC af|apply wG|apply wH|apply And.intro))|((with_reducible refine oD ?_ ?_);first|fail|kernel_rfl)|((with_reducible (first|apply oE|apply oF));(iterate 3 exact rfl);all_goals (intro h;first|(exact absurd h (by decide))|((try simp only [go_sem,simprocAttr,hb] at h);(try with_reducible intro K hK);simp only [go_sem,simprocAttr,hb])))|((first|((with_reducible apply wL);exact rfl)|((with_reducible apply wM);exact rfl));all_goals (try ((with_reducible intro h);first|(exact absurd h (by decide))|(try simp only [go_sem,simprocAttr,hb] at h))))|omega|((first|fail);try simp only [go_sem,simprocAttr,hb])|(intro h))
  ·have hm:=aK (d:=0) hlt
   rw [h] at hm
   exact (decide_eq_true hm).symm
  ·refine ⟨k+1,⟨by omega,fun j hj=> ?_⟩, ?_,by omega⟩
   ·by_cases hjk:j=k
    ·subst hjk;assumption
    ·exact hg j (by omega)
   ·(refine ⟨bN ?_,fun _ _ h=>h⟩;simp [go_sem,simprocAttr,hb])
 ·have hb:decide ((k:Int)<(ps.length:Int))=false:=decide_eq_false (by omega)
  repeat' (first|fail|((first|((with_reducible (first|apply oA|apply oB));exact rfl;intro K hK)|(refine hK _ ?_;clear hK K)|((with_reducible (first|apply oG|apply oH));iterate 3 exact rfl)|((with_reducible apply oI);(iterate 2 exact rfl);intro K hK)|(with_reducible (first|apply wI|apply wJ|apply wK)));try simp only [go_sem,simprocAttr,hb])|fail|(with_reducible (first|apply oC|apply oJ|exact oK|apply wA|apply wB|apply wC hX hC|apply wD hX hC|apply wE hX hC af|apply wF hX hC af|apply wG|apply wH|apply And.intro))|((with_reducible refine oD ?_ ?_);first|fail|kernel_rfl)|((with_reducible (first|apply oE|apply oF));(iterate 3 exact rfl);all_goals (intro h;first|(exact absurd h (by decide))|((try simp only [go_sem,simprocAttr,hb] at h);(try with_reducible intro K hK);simp only [go_sem,simprocAttr,hb])))|((first|((with_reducible apply wL);exact rfl)|((with_reducible apply wM);exact rfl));all_goals (try ((with_reducible intro h);first|(exact absurd h (by decide))|(try simp only [go_sem,simprocAttr,hb] at h))))|omega|((first|fail);try simp only [go_sem,simprocAttr,hb])|(intro h))
  refine (decide_eq_false fun hm=> ?_).symm
  obtain ⟨j,hj,hx⟩:=List.mem_iff_getElem.1 hm
  exact hg j (by omega) (by rw [List.getD_eq_getElem?_getD,List.getElem?_eq_getElem hj];exact hx)
def e9 (g:Gr) (f:Fr):List AV:= [eN g.n, .d (sE g.es), .d (sT f.row), .d (sI f.pl)]
def fJ (row:List It) (x:Int):Nat→Int
 |0=>0
 |k+1=>if (row.getD k (0,0,0)).2.2=x then fJ row x k+1 else fJ row x k
theorem eD {row:List It} {x:Int} {k:Nat} :fJ row x (k+1)=if (row.getD k (0,0,0)).2.2=x then fJ row x k+1 else fJ row x k:=rfl
theorem yP {row:List It} {x:Int} :∀k:Nat,0≤fJ row x k∧fJ row x k≤k
 |0=>by simp [fJ]
 |k+1=>by
  have:=yP (row:=row) (x:=x) k
  rw [eD]
  split<;>omega
def rM (row:List It) (x:Int) (need:Nat) (j:Nat):Bool:=decide ((row.getD j (0,0,0)).2.2≠x)&&decide (0≤(row.getD j (0,0,0)).1)&&decide (0<fJ row x j)&&decide (fJ row x j<need)
theorem lK {row:List It} {x:Int} {need j:Nat} :rM row x need j=true↔((row.getD j (0,0,0)).2.2≠x∧0≤(row.getD j (0,0,0)).1)∧0<fJ row x j∧fJ row x j<need:=by
 simp only [rM,Bool.and_eq_true,decide_eq_true_eq,and_assoc]
def bA (g:Gr) (x:Int):Nat:=(bg (·.2) g.es g.es.length x).length
def aC (g:Gr) (f:Fr) (x:Int):Bool:=
 if x<0∨g.n≤x∨x∈f.pl then false else if bA g x=0 then true else
 !(List.range f.row.length).any (rM f.row x (bA g x))&&decide (fJ f.row x f.row.length=bA g x)
theorem iG:j9 false=(fun e:Edge=>e.2):=rfl
theorem eV:j9 true=(fun e:Edge=>e.1):=rfl
theorem Eb {n j:Nat} {p:Nat→Bool} (h:j<n) (hp:p j=true):(List.range n).any p=true:=List.any_eq_true.2 ⟨j,List.mem_range.2 h,hp⟩
theorem Ec {n:Nat} {p:Nat→Bool} (h:∀j,j<n→p j=false):(List.range n).any p=false:=by
 rw [List.any_eq_false]
 intro j hj
 rw [h j (List.mem_range.1 hj)];simp
theorem bB (g:Gr) (hl:g.es.length≤1000) (f:Fr) (x:Int) (hr:f.row.length≤1000000) (fU:f.pl.length≤1000000):Spec Tryz.prog 141 (Args [.ptr 10000 0,eN x]) [(10000, .rob (e9 g f))] (eB (aC g f x)) [(10000, .rob (e9 g f))]:=by
 have hp:f.pl.length≤9223372036854775807:=by omega
 unfold e9
 by_cases hx:x<0∨g.n≤x∨x∈f.pl
 ·have hR:aC g f x=false:=if_pos hx
  (refine Spec.intro (C:=T.cfg [] []) (rs:= [.t 4]) (T.aq _ _) Tryz.func141 rfl rfl Tryz.ntmps141 Tryz.results141 (by simp [AObj.isNest]) (by simp [AObj.isNest]) (by kernel_rfl) ?_;intro X hX hP hC aN aO vals hA;refine ⟨_,by simp,hA, ?_⟩;have af:X.P.follows .mixedOrders=true:=(by rw [hP];exact T.mixed);clear aN aO)
  by_cases h1:x<0
  ·have an:decide (x<0)=true:=decide_eq_true h1
   repeat' (first|fail|((first|((with_reducible (first|apply oA|apply oB));exact rfl;intro K hK)|(refine hK _ ?_;clear hK K)|((with_reducible (first|apply oG|apply oH));iterate 3 exact rfl)|((with_reducible apply oI);(iterate 2 exact rfl);intro K hK)|(with_reducible (first|apply wI|apply wJ|apply wK)));try simp only [go_sem,simprocAttr,hR,an])|fail|(with_reducible (first|apply oC|apply oJ|exact oK|apply wA|apply wB|apply wC hX hC|apply wD hX hC|apply wE hX hC af|apply wF hX hC af|apply wG|apply wH|apply And.intro))|((with_reducible refine oD ?_ ?_);first|fail|kernel_rfl)|((with_reducible (first|apply oE|apply oF));(iterate 3 exact rfl);all_goals (intro h;first|(exact absurd h (by decide))|((try simp only [go_sem,simprocAttr,hR,an] at h);(try with_reducible intro K hK);simp only [go_sem,simprocAttr,hR,an])))|((first|((with_reducible apply wL);exact rfl)|((with_reducible apply wM);exact rfl));all_goals (try ((with_reducible intro h);first|(exact absurd h (by decide))|(try simp only [go_sem,simprocAttr,hR,an] at h))))|omega|((first|first|refine aa hX hC hP (bk f.pl x hp) rfl rfl rfl (by simp only [go_sem,simprocAttr,hR,an]) rfl ?_|refine aa hX hC hP (aV g x false hl) rfl rfl rfl (by simp only [go_sem,simprocAttr,hR,an]) rfl ?_);try simp only [go_sem,simprocAttr,hR,an])|(intro h))
  have an:decide (x<0)=false:=decide_eq_false h1
  by_cases h2:g.n≤x
  ·have aj:decide (g.n≤x)=true:=decide_eq_true h2
   repeat' (first|fail|((first|((with_reducible (first|apply oA|apply oB));exact rfl;intro K hK)|(refine hK _ ?_;clear hK K)|((with_reducible (first|apply oG|apply oH));iterate 3 exact rfl)|((with_reducible apply oI);(iterate 2 exact rfl);intro K hK)|(with_reducible (first|apply wI|apply wJ|apply wK)));try simp only [go_sem,simprocAttr,hR,an,aj])|fail|(with_reducible (first|apply oC|apply oJ|exact oK|apply wA|apply wB|apply wC hX hC|apply wD hX hC|apply wE hX hC af|apply wF hX hC af|apply wG|apply wH|apply And.intro))|((with_reducible refine oD ?_ ?_);first|fail|kernel_rfl)|((with_reducible (first|apply oE|apply oF));(iterate 3 exact rfl);all_goals (intro h;first|(exact absurd h (by decide))|((try simp only [go_sem,simprocAttr,hR,an,aj] at h);(try with_reducible intro K hK);simp only [go_sem,simprocAttr,hR,an,aj])))|((first|((with_reducible apply wL);exact rfl)|((with_reducible apply wM);exact rfl));all_goals (try ((with_reducible intro h);first|(exact absurd h (by decide))|(try simp only [go_sem,simprocAttr,hR,an,aj] at h))))|omega|((first|first|refine aa hX hC hP (bk f.pl x hp) rfl rfl rfl (by simp only [go_sem,simprocAttr,hR,an,aj]) rfl ?_|refine aa hX hC hP (aV g x false hl) rfl rfl rfl (by simp only [go_sem,simprocAttr,hR,an,aj]) rfl ?_);try simp only [go_sem,simprocAttr,hR,an,aj])|(intro h))
  have aj:decide (g.n≤x)=false:=decide_eq_false h2
  have h3:x∈f.pl:=by rcases hx with h|h|h;exact absurd h h1;exact absurd h h2;exact h
  have bt:decide (x∈f.pl)=true:=decide_eq_true h3
  repeat' (first|fail|((first|((with_reducible (first|apply oA|apply oB));exact rfl;intro K hK)|(refine hK _ ?_;clear hK K)|((with_reducible (first|apply oG|apply oH));iterate 3 exact rfl)|((with_reducible apply oI);(iterate 2 exact rfl);intro K hK)|(with_reducible (first|apply wI|apply wJ|apply wK)));try simp only [go_sem,simprocAttr,hR,an,aj,bt])|fail|(with_reducible (first|apply oC|apply oJ|exact oK|apply wA|apply wB|apply wC hX hC|apply wD hX hC|apply wE hX hC af|apply wF hX hC af|apply wG|apply wH|apply And.intro))|((with_reducible refine oD ?_ ?_);first|fail|kernel_rfl)|((with_reducible (first|apply oE|apply oF));(iterate 3 exact rfl);all_goals (intro h;first|(exact absurd h (by decide))|((try simp only [go_sem,simprocAttr,hR,an,aj,bt] at h);(try with_reducible intro K hK);simp only [go_sem,simprocAttr,hR,an,aj,bt])))|((first|((with_reducible apply wL);exact rfl)|((with_reducible apply wM);exact rfl));all_goals (try ((with_reducible intro h);first|(exact absurd h (by decide))|(try simp only [go_sem,simprocAttr,hR,an,aj,bt] at h))))|omega|((first|first|refine aa hX hC hP (bk f.pl x hp) rfl rfl rfl (by simp only [go_sem,simprocAttr,hR,an,aj,bt]) rfl ?_|refine aa hX hC hP (aV g x false hl) rfl rfl rfl (by simp only [go_sem,simprocAttr,hR,an,aj,bt]) rfl ?_);try simp only [go_sem,simprocAttr,hR,an,aj,bt])|(intro h))
 ·have an:decide (x<0)=false:=decide_eq_false fun h=>hx (.inl h)
  have aj:decide (g.n≤x)=false:=decide_eq_false fun h=>hx (.inr (.inl h))
  have bt:decide (x∈f.pl)=false:=decide_eq_false fun h=>hx (.inr (.inr h))
  have hR:aC g f x=if bA g x=0 then true else !(List.range f.row.length).any (rM f.row x (bA g x))&&decide (fJ f.row x f.row.length=bA g x):=if_neg hx
  have cg:(bg (·.2) g.es g.es.length x).length=bA g x:=rfl
  have hnl:bA g x≤1000:=Nat.le_trans jI hl
  generalize bA g x=need at hR cg hnl
  by_cases h4:need=0
  ·have hb4:decide ((need:Int)=0)=true:=decide_eq_true (by omega)
   rw [if_pos h4] at hR
   (refine Spec.intro (C:=T.cfg [] []) (rs:= [.t 4]) (T.aq _ _) Tryz.func141 rfl rfl Tryz.ntmps141 Tryz.results141 (by simp [AObj.isNest]) (by simp [AObj.isNest]) (by kernel_rfl) ?_;intro X hX hP hC aN aO vals hA;refine ⟨_,by simp,hA, ?_⟩;have af:X.P.follows .mixedOrders=true:=(by rw [hP];exact T.mixed);clear aN aO)
   repeat' (first|fail|((first|((with_reducible (first|apply oA|apply oB));exact rfl;intro K hK)|(refine hK _ ?_;clear hK K)|((with_reducible (first|apply oG|apply oH));iterate 3 exact rfl)|((with_reducible apply oI);(iterate 2 exact rfl);intro K hK)|(with_reducible (first|apply wI|apply wJ|apply wK)));try simp only [go_sem,simprocAttr,hR,an,aj,bt,hb4,iG,cg])|fail|(with_reducible (first|apply oC|apply oJ|exact oK|apply wA|apply wB|apply wC hX hC|apply wD hX hC|apply wE hX hC af|apply wF hX hC af|apply wG|apply wH|apply And.intro))|((with_reducible refine oD ?_ ?_);first|fail|kernel_rfl)|((with_reducible (first|apply oE|apply oF));(iterate 3 exact rfl);all_goals (intro h;first|(exact absurd h (by decide))|((try simp only [go_sem,simprocAttr,hR,an,aj,bt,hb4,iG,cg] at h);(try with_reducible intro K hK);simp only [go_sem,simprocAttr,hR,an,aj,bt,hb4,iG,cg])))|((first|((with_reducible apply wL);exact rfl)|((with_reducible apply wM);exact rfl));all_goals (try ((with_reducible intro h);first|(exact absurd h (by decide))|(try simp only [go_sem,simprocAttr,hR,an,aj,bt,hb4,iG,cg] at h))))|omega|((first|first|refine aa hX hC hP (bk f.pl x hp) rfl rfl rfl (by simp only [go_sem,simprocAttr,hR,an,aj,bt,hb4,iG,cg]) rfl ?_|refine aa hX hC hP (aV g x false hl) rfl rfl rfl (by simp only [go_sem,simprocAttr,hR,an,aj,bt,hb4,iG,cg]) rfl ?_);try simp only [go_sem,simprocAttr,hR,an,aj,bt,hb4,iG,cg])|(intro h))
  ·have hb4:decide ((need:Int)=0)=false:=decide_eq_false (by omega)
   rw [if_neg h4] at hR
   generalize aC g f x=res at hR
   (refine Spec.intro (C:=T.cfg [] []) (rs:= [.t 4]) (T.aq _ _) Tryz.func141 rfl rfl Tryz.ntmps141 Tryz.results141 (by simp [AObj.isNest]) (by simp [AObj.isNest]) (by kernel_rfl) ?_;intro X hX hP hC aN aO vals hA;refine ⟨_,by simp,hA, ?_⟩;have af:X.P.follows .mixedOrders=true:=(by rw [hP];exact T.mixed);clear aN aO)
   repeat' (first|fail|((first|((with_reducible (first|apply oA|apply oB));exact rfl;intro K hK)|(refine hK _ ?_;clear hK K)|((with_reducible (first|apply oG|apply oH));iterate 3 exact rfl)|((with_reducible apply oI);(iterate 2 exact rfl);intro K hK)|(with_reducible (first|apply wI|apply wJ|apply wK)));try simp only [go_sem,simprocAttr,an,aj,bt,hb4,iG,cg])|fail|(with_reducible (first|apply oC|apply oJ|exact oK|apply wA|apply wB|apply wC hX hC|apply wD hX hC|apply wE hX hC af|apply wF hX hC af|apply wG|apply wH|apply And.intro))|((with_reducible refine oD ?_ ?_);first|fail|kernel_rfl)|((with_reducible (first|apply oE|apply oF));(iterate 3 exact rfl);all_goals (intro h;first|(exact absurd h (by decide))|((try simp only [go_sem,simprocAttr,an,aj,bt,hb4,iG,cg] at h);(try with_reducible intro K hK);simp only [go_sem,simprocAttr,an,aj,bt,hb4,iG,cg])))|((first|((with_reducible apply wL);exact rfl)|((with_reducible apply wM);exact rfl));all_goals (try ((with_reducible intro h);first|(exact absurd h (by decide))|(try simp only [go_sem,simprocAttr,an,aj,bt,hb4,iG,cg] at h))))|omega|((first|first|refine aa hX hC hP (bk f.pl x hp) rfl rfl rfl (by simp only [go_sem,simprocAttr,an,aj,bt,hb4,iG,cg]) rfl ?_|refine aa hX hC hP (aV g x false hl) rfl rfl rfl (by simp only [go_sem,simprocAttr,an,aj,bt,hb4,iG,cg]) rfl ?_);try simp only [go_sem,simprocAttr,an,aj,bt,hb4,iG,cg])|(intro h))
   refine ak (fun k:Nat=>k≤f.row.length∧∀j,j<k→rM f.row x need j=false) (fun k=>⟨[(0, .ptr 10000 0),(1,eN x),(5,eN need),(6,eN (fJ f.row x k)),(7,eN k)], [(10000, .rob [eN g.n, .d (sE g.es), .d (sT f.row), .d (sI f.pl)])]⟩) (fun k=>f.row.length - k) 0 (by simp) ?_ ?_
   ·refine Le.of ?_ ?_<;>simp [go_sem,simprocAttr,an,aj,bt,hb4,iG,cg,fJ]
   rintro k ⟨hk,hg⟩
   rcases Nat.lt_or_ge k f.row.length with hlt|hge
   ·have hb:decide ((k:Int)<(f.row.length:Int))=true:=decide_eq_true (by omega)
    have hmk:=yP (row:=f.row) (x:=x) k
    have dQ:=eD (row:=f.row) (x:=x) (k:=k)
    have step:rM f.row x need k=false→∀j,j<k+1→rM f.row x need j=false:=fun h j hj=>by
     by_cases hjk:j=k
     ·subst hjk;exact h
     ·exact hg j (by omega)
    repeat' (first|fail|((first|((with_reducible (first|apply oA|apply oB));exact rfl;intro K hK)|(refine hK _ ?_;clear hK K)|((with_reducible (first|apply oG|apply oH));iterate 3 exact rfl)|((with_reducible apply oI);(iterate 2 exact rfl);intro K hK)|(with_reducible (first|apply wI|apply wJ|apply wK)));try simp only [go_sem,simprocAttr,hb])|fail|(with_reducible (first|apply oC|apply oJ|exact oK|apply wA|apply wB|apply wC hX hC|apply wD hX hC|apply wE hX hC af|apply wF hX hC af|apply wG|apply wH|apply And.intro))|((with_reducible refine oD ?_ ?_);first|fail|kernel_rfl)|((with_reducible (first|apply oE|apply oF));(iterate 3 exact rfl);all_goals (intro h;first|(exact absurd h (by decide))|((try simp only [go_sem,simprocAttr,hb] at h);(try with_reducible intro K hK);simp only [go_sem,simprocAttr,hb])))|((first|((with_reducible apply wL);exact rfl)|((with_reducible apply wM);exact rfl));all_goals (try ((with_reducible intro h);first|(exact absurd h (by decide))|(try simp only [go_sem,simprocAttr,hb] at h))))|omega|((first|first|refine aa hX hC hP (bk f.pl x hp) rfl rfl rfl (by simp only [go_sem,simprocAttr,hb]) rfl ?_|refine aa hX hC hP (aV g x false hl) rfl rfl rfl (by simp only [go_sem,simprocAttr,hb]) rfl ?_);try simp only [go_sem,simprocAttr,hb])|(intro h))
    all_goals (first|(rw [hR,Eb hlt (lK.2 ⟨⟨by assumption,by assumption⟩,by assumption,by assumption⟩)];rfl)|skip)
    all_goals (first|rw [if_neg (by assumption)] at dQ|rw [if_pos (by assumption)] at dQ)
    all_goals (refine ⟨k+1,⟨by omega,step (by rw [← Bool.not_eq_true];intro hh;obtain ⟨⟨_,_⟩,_,_⟩:=lK.1 hh;contradiction)⟩, ?_,by omega⟩;refine Le.of ?_ ?_<;>simp [go_sem,simprocAttr,hb,dQ])
   ·have hb:decide ((k:Int)<(f.row.length:Int))=false:=decide_eq_false (by omega)
    obtain rfl:k=f.row.length:=by omega
    rw [Ec hg] at hR
    repeat' (first|fail|((first|((with_reducible (first|apply oA|apply oB));exact rfl;intro K hK)|(refine hK _ ?_;clear hK K)|((with_reducible (first|apply oG|apply oH));iterate 3 exact rfl)|((with_reducible apply oI);(iterate 2 exact rfl);intro K hK)|(with_reducible (first|apply wI|apply wJ|apply wK)));try simp only [go_sem,simprocAttr,hb,hR])|fail|(with_reducible (first|apply oC|apply oJ|exact oK|apply wA|apply wB|apply wC hX hC|apply wD hX hC|apply wE hX hC af|apply wF hX hC af|apply wG|apply wH|apply And.intro))|((with_reducible refine oD ?_ ?_);first|fail|kernel_rfl)|((with_reducible (first|apply oE|apply oF));(iterate 3 exact rfl);all_goals (intro h;first|(exact absurd h (by decide))|((try simp only [go_sem,simprocAttr,hb,hR] at h);(try with_reducible intro K hK);simp only [go_sem,simprocAttr,hb,hR])))|((first|((with_reducible apply wL);exact rfl)|((with_reducible apply wM);exact rfl));all_goals (try ((with_reducible intro h);first|(exact absurd h (by decide))|(try simp only [go_sem,simprocAttr,hb,hR] at h))))|omega|((first|first|refine aa hX hC hP (bk f.pl x hp) rfl rfl rfl (by simp only [go_sem,simprocAttr,hb,hR]) rfl ?_|refine aa hX hC hP (aV g x false hl) rfl rfl rfl (by simp only [go_sem,simprocAttr,hb,hR]) rfl ?_);try simp only [go_sem,simprocAttr,hb,hR])|(intro h))
end Go.Ab
end
section
namespace Go.Ab
open Go.Proofs
attribute [local congr] ACall.congr
set_option maxRecDepth 10000
set_option maxHeartbeats 4000000
end Go.Ab
end
section
namespace Go.Ab
open Go.Proofs
attribute [local congr] ACall.congr
set_option maxRecDepth 10000
set_option maxHeartbeats 8000000
def bu (g:Gr) (x:Int):List Int:=bg (·.1) g.es g.es.length x
def aA (g:Gr) (f:Fr) (x:Int) (outs:List Int):(List It × Int) × Fr:=
 (((f.row.take (aT f.row x).2.1.toNat).drop (max (aT f.row x).1 0).toNat,0),⟨f.row.take (max (aT f.row x).1 0).toNat++aJ g x outs++f.row.drop (aT f.row x).2.1.toNat,f.pl++ [x]⟩)
def cV (g:Gr) (f:Fr) (x:Int) (outs:List Int):(List It × Int) × Fr:=
 if aC g f x=false then (([],3),f) else
 if outs.length≠(bu g x).length∨∃i∈bu g x,i∉outs then (([],1),f) else aA g f x outs
theorem cW {f:Edge→Int} {es:List Edge} {k:Nat} {x:Int} :(bg f es k x).Nodup:=by
 unfold bg
 exact List.Pairwise.map _ (fun a b h e=>h (Int.ofNat.inj e)) (List.Pairwise.filter _ List.nodup_range)
theorem uS:∀ {ms os:List Int},ms.Nodup→(∀i∈ms,i∈os)→os.length=ms.length→∀i∈os,i∈ms
 | [],os,_,_,hl,i,hi=>by
   have:os= []:=List.eq_nil_of_length_eq_zero (by simpa using hl)
   rw [this] at hi;exact hi
 |m::ms,os,hn,hs,hl,i,hi=>by
  rw [List.nodup_cons] at hn
  have hm:=hs m (List.mem_cons_self ..)
  by_cases h:i=m
  ·rw [h];exact List.mem_cons_self ..
  ·refine List.mem_cons_of_mem _ (uS hn.2 (os:=os.erase m) (fun j hj=> ?_) ?_ i ?_)
   ·have:j≠m:=fun e=>hn.1 (e ▸ hj)
    exact (List.mem_erase_of_ne this).2 (hs j (List.mem_cons_of_mem _ hj))
   ·rw [List.length_erase_of_mem hm,hl];simp
   ·exact (List.mem_erase_of_ne h).2 hi
theorem wv {g:Gr} {x:Int} :(bu g x).length≤g.es.length:=jI
theorem wz (g:Gr) (hl:g.es.length≤1000) (f:Fr) (x:Int) (outs:List Int) (hr:f.row.length≤300000) (hp:f.pl.length≤100000) (ho:outs.length≤9223372036854775807):
 Spec Tryz.prog 118 (Args [.ptr 10000 0,eN x, .d (sI outs)]) [(10000, .box (e9 g f))] (.tup [.d (sT (cV g f x outs).1.1),eN (cV g f x outs).1.2]) [(10000, .box (e9 g (cV g f x outs).2))]:=by
 have jd:f.row.length≤1000000:=by omega
 have hp1:f.pl.length≤1000000:=by omega
 have oc:outs.length≤9223372036854775807:=by omega
 have hml:=wv (g:=g) (x:=x)
 have qw:bg (fun e=>e.1) g.es g.es.length x=bu g x:=rfl
 cases hR:aC g f x with
 |false=>
  have hP:cV g f x outs=(([],3),f):=if_pos hR
  rw [hP]
  unfold e9
  (refine Spec.intro (C:=T.cfg [] []) (rs:= [.t 6, .t 7]) (T.aq _ _) Tryz.func118 rfl rfl Tryz.ntmps118 Tryz.results118 (by simp [AObj.isNest]) (by simp [AObj.isNest]) (by kernel_rfl) ?_;intro X hX hP hC aN aO vals hA;refine ⟨_,by simp,hA, ?_⟩;have af:X.P.follows .mixedOrders=true:=(by rw [hP];exact T.mixed);clear aN aO)
  repeat' (first|fail|((first|((with_reducible (first|apply oA|apply oB));exact rfl;intro K hK)|(refine hK _ ?_;clear hK K)|((with_reducible (first|apply oG|apply oH));iterate 3 exact rfl)|((with_reducible apply oI);(iterate 2 exact rfl);intro K hK)|(with_reducible (first|apply wI|apply wJ|apply wK)));try simp only [go_sem,simprocAttr,hR,e9])|fail|(with_reducible (first|apply oC|apply oJ|exact oK|apply wA|apply wB|apply wC hX hC|apply wD hX hC|apply wE hX hC af|apply wF hX hC af|apply wG|apply wH|apply And.intro))|((with_reducible refine oD ?_ ?_);first|fail|kernel_rfl)|((with_reducible (first|apply oE|apply oF));(iterate 3 exact rfl);all_goals (intro h;first|(exact absurd h (by decide))|((try simp only [go_sem,simprocAttr,hR,e9] at h);(try with_reducible intro K hK);simp only [go_sem,simprocAttr,hR,e9])))|((first|((with_reducible apply wL);exact rfl)|((with_reducible apply wM);exact rfl));all_goals (try ((with_reducible intro h);first|(exact absurd h (by decide))|(try simp only [go_sem,simprocAttr,hR,e9] at h))))|omega|((first|first|(refine aR hX hC hP [(10000,10000)] (bB g hl f x jd hp1) rfl rfl rfl ?_ ?_ ?_ ?_ ?_ ?_ rfl rfl ?_ ?_;(focus (simp only [go_sem,simprocAttr,hR,e9];done));(iterate 6 (focus (simp [go_sem,simprocAttr,hR,e9];done)));simp only [go_sem,simprocAttr,hR,e9,List.map_cons,List.map_nil])|refine aa hX hC hP (aV g x true hl) rfl rfl rfl (by simp only [go_sem,simprocAttr,hR,e9]) rfl ?_|refine aa hX hC hP (bk outs ((bu g x).getD k 0) oc) rfl rfl rfl (by simp only [go_sem,simprocAttr,hR,e9]) rfl ?_);try simp only [go_sem,simprocAttr,hR,e9])|(intro h))
 |true=>
 have FJ:¬aC g f x=false:=by rw [hR];simp
 by_cases hlen:outs.length≠(bu g x).length
 ·have hP:cV g f x outs=(([],1),f):=by unfold cV;rw [if_neg FJ,if_pos (.inl hlen)]
  have an:decide ((outs.length:Int)=((bu g x).length:Int))=false:=decide_eq_false (by omega)
  rw [hP]
  unfold e9
  (refine Spec.intro (C:=T.cfg [] []) (rs:= [.t 6, .t 7]) (T.aq _ _) Tryz.func118 rfl rfl Tryz.ntmps118 Tryz.results118 (by simp [AObj.isNest]) (by simp [AObj.isNest]) (by kernel_rfl) ?_;intro X hX hP hC aN aO vals hA;refine ⟨_,by simp,hA, ?_⟩;have af:X.P.follows .mixedOrders=true:=(by rw [hP];exact T.mixed);clear aN aO)
  repeat' (first|fail|((first|((with_reducible (first|apply oA|apply oB));exact rfl;intro K hK)|(refine hK _ ?_;clear hK K)|((with_reducible (first|apply oG|apply oH));iterate 3 exact rfl)|((with_reducible apply oI);(iterate 2 exact rfl);intro K hK)|(with_reducible (first|apply wI|apply wJ|apply wK)));try simp only [go_sem,simprocAttr,hR,e9,eV,qw,an])|fail|(with_reducible (first|apply oC|apply oJ|exact oK|apply wA|apply wB|apply wC hX hC|apply wD hX hC|apply wE hX hC af|apply wF hX hC af|apply wG|apply wH|apply And.intro))|((with_reducible refine oD ?_ ?_);first|fail|kernel_rfl)|((with_reducible (first|apply oE|apply oF));(iterate 3 exact rfl);all_goals (intro h;first|(exact absurd h (by decide))|((try simp only [go_sem,simprocAttr,hR,e9,eV,qw,an] at h);(try with_reducible intro K hK);simp only [go_sem,simprocAttr,hR,e9,eV,qw,an])))|((first|((with_reducible apply wL);exact rfl)|((with_reducible apply wM);exact rfl));all_goals (try ((with_reducible intro h);first|(exact absurd h (by decide))|(try simp only [go_sem,simprocAttr,hR,e9,eV,qw,an] at h))))|omega|((first|first|(refine aR hX hC hP [(10000,10000)] (bB g hl f x jd hp1) rfl rfl rfl ?_ ?_ ?_ ?_ ?_ ?_ rfl rfl ?_ ?_;(focus (simp only [go_sem,simprocAttr,hR,e9,eV,qw,an];done));(iterate 6 (focus (simp [go_sem,simprocAttr,hR,e9,eV,qw,an];done)));simp only [go_sem,simprocAttr,hR,e9,eV,qw,an,List.map_cons,List.map_nil])|refine aa hX hC hP (aV g x true hl) rfl rfl rfl (by simp only [go_sem,simprocAttr,hR,e9,eV,qw,an]) rfl ?_|refine aa hX hC hP (bk outs ((bu g x).getD k 0) oc) rfl rfl rfl (by simp only [go_sem,simprocAttr,hR,e9,eV,qw,an]) rfl ?_);try simp only [go_sem,simprocAttr,hR,e9,eV,qw,an])|(intro h))
 rw [ne_eq,Decidable.not_not] at hlen
 have an:decide ((outs.length:Int)=((bu g x).length:Int))=true:=decide_eq_true (by omega)
 have hP:cV g f x outs=if ∃i∈bu g x,i∉outs then (([],1),f) else aA g f x outs:=by
  unfold cV
  rw [if_neg FJ]
  by_cases hE:∃i∈bu g x,i∉outs
  ·rw [if_pos (.inr hE),if_pos hE]
  ·rw [if_neg (fun h=>by rcases h with h|h;exact h hlen;exact hE h),if_neg hE]
 rw [hP]
 generalize Gc:(if ∃i∈bu g x,i∉outs then (([],1),f) else aA g f x outs:(List It × Int) × Fr)=pp
 unfold e9
 (refine Spec.intro (C:=T.cfg [] []) (rs:= [.t 6, .t 7]) (T.aq _ _) Tryz.func118 rfl rfl Tryz.ntmps118 Tryz.results118 (by simp [AObj.isNest]) (by simp [AObj.isNest]) (by kernel_rfl) ?_;intro X hX hP hC aN aO vals hA;refine ⟨_,by simp,hA, ?_⟩;have af:X.P.follows .mixedOrders=true:=(by rw [hP];exact T.mixed);clear aN aO)
 repeat' (first|fail|((first|((with_reducible (first|apply oA|apply oB));exact rfl;intro K hK)|(refine hK _ ?_;clear hK K)|((with_reducible (first|apply oG|apply oH));iterate 3 exact rfl)|((with_reducible apply oI);(iterate 2 exact rfl);intro K hK)|(with_reducible (first|apply wI|apply wJ|apply wK)));try simp only [go_sem,simprocAttr,hR,e9,eV,qw,an])|fail|(with_reducible (first|apply oC|apply oJ|exact oK|apply wA|apply wB|apply wC hX hC|apply wD hX hC|apply wE hX hC af|apply wF hX hC af|apply wG|apply wH|apply And.intro))|((with_reducible refine oD ?_ ?_);first|fail|kernel_rfl)|((with_reducible (first|apply oE|apply oF));(iterate 3 exact rfl);all_goals (intro h;first|(exact absurd h (by decide))|((try simp only [go_sem,simprocAttr,hR,e9,eV,qw,an] at h);(try with_reducible intro K hK);simp only [go_sem,simprocAttr,hR,e9,eV,qw,an])))|((first|((with_reducible apply wL);exact rfl)|((with_reducible apply wM);exact rfl));all_goals (try ((with_reducible intro h);first|(exact absurd h (by decide))|(try simp only [go_sem,simprocAttr,hR,e9,eV,qw,an] at h))))|omega|((first|first|(refine aR hX hC hP [(10000,10000)] (bB g hl f x jd hp1) rfl rfl rfl ?_ ?_ ?_ ?_ ?_ ?_ rfl rfl ?_ ?_;(focus (simp only [go_sem,simprocAttr,hR,e9,eV,qw,an];done));(iterate 6 (focus (simp [go_sem,simprocAttr,hR,e9,eV,qw,an];done)));simp only [go_sem,simprocAttr,hR,e9,eV,qw,an,List.map_cons,List.map_nil])|refine aa hX hC hP (aV g x true hl) rfl rfl rfl (by simp only [go_sem,simprocAttr,hR,e9,eV,qw,an]) rfl ?_|refine aa hX hC hP (bk outs ((bu g x).getD k 0) oc) rfl rfl rfl (by simp only [go_sem,simprocAttr,hR,e9,eV,qw,an]) rfl ?_);try simp only [go_sem,simprocAttr,hR,e9,eV,qw,an])|(intro h))
 refine ak (fun k:Nat=>k≤(bu g x).length∧∀j,j<k→(bu g x).getD j 0∈outs) (fun k=>⟨[(0, .ptr 10000 0),(1,eN x),(2, .d (sI outs)),(8, .d (sI (bu g x))),(9,eN k)], [(10000, .box [eN g.n, .d (sE g.es), .d (sT f.row), .d (sI f.pl)])]⟩) (fun k=>(bu g x).length - k) 0 (by simp) ?_ ?_
 ·(refine Le.of ?_ ?_<;>simp [go_sem,simprocAttr,hR,e9,eV,qw,an])
 rintro k ⟨hk,hg⟩
 rcases Nat.lt_or_ge k (bu g x).length with hlt|hge
 ·have hb:decide ((k:Int)<((bu g x).length:Int))=true:=decide_eq_true (by omega)
  by_cases hin:(bu g x).getD k 0∈outs
  ·have aj:decide ((bu g x).getD k 0∈outs)=true:=decide_eq_true hin
   repeat' (first|fail|((first|((with_reducible (first|apply oA|apply oB));exact rfl;intro K hK)|(refine hK _ ?_;clear hK K)|((with_reducible (first|apply oG|apply oH));iterate 3 exact rfl)|((with_reducible apply oI);(iterate 2 exact rfl);intro K hK)|(with_reducible (first|apply wI|apply wJ|apply wK)));try simp only [go_sem,simprocAttr,hb,aj])|fail|(with_reducible (first|apply oC|apply oJ|exact oK|apply wA|apply wB|apply wC hX hC|apply wD hX hC|apply wE hX hC af|apply wF hX hC af|apply wG|apply wH|apply And.intro))|((with_reducible refine oD ?_ ?_);first|fail|kernel_rfl)|((with_reducible (first|apply oE|apply oF));(iterate 3 exact rfl);all_goals (intro h;first|(exact absurd h (by decide))|((try simp only [go_sem,simprocAttr,hb,aj] at h);(try with_reducible intro K hK);simp only [go_sem,simprocAttr,hb,aj])))|((first|((with_reducible apply wL);exact rfl)|((with_reducible apply wM);exact rfl));all_goals (try ((with_reducible intro h);first|(exact absurd h (by decide))|(try simp only [go_sem,simprocAttr,hb,aj] at h))))|omega|((first|first|(refine aR hX hC hP [(10000,10000)] (bB g hl f x jd hp1) rfl rfl rfl ?_ ?_ ?_ ?_ ?_ ?_ rfl rfl ?_ ?_;(focus (simp only [go_sem,simprocAttr,hb,aj];done));(iterate 6 (focus (simp [go_sem,simprocAttr,hb,aj];done)));simp only [go_sem,simprocAttr,hb,aj,List.map_cons,List.map_nil])|refine aa hX hC hP (aV g x true hl) rfl rfl rfl (by simp only [go_sem,simprocAttr,hb,aj]) rfl ?_|refine aa hX hC hP (bk outs ((bu g x).getD k 0) oc) rfl rfl rfl (by simp only [go_sem,simprocAttr,hb,aj]) rfl ?_);try simp only [go_sem,simprocAttr,hb,aj])|(intro h))
   refine ⟨k+1,⟨by omega,fun j hj=> ?_⟩, ?_,by omega⟩
   ·by_cases hjk:j=k
    ·subst hjk;exact hin
    ·exact hg j (by omega)
   ·(refine Le.of ?_ ?_<;>simp [go_sem,simprocAttr,hb,aj])
  ·have aj:decide ((bu g x).getD k 0∈outs)=false:=decide_eq_false hin
   rw [if_pos ⟨_,aK (d:=0) hlt,hin⟩] at Gc
   subst Gc
   repeat' (first|fail|((first|((with_reducible (first|apply oA|apply oB));exact rfl;intro K hK)|(refine hK _ ?_;clear hK K)|((with_reducible (first|apply oG|apply oH));iterate 3 exact rfl)|((with_reducible apply oI);(iterate 2 exact rfl);intro K hK)|(with_reducible (first|apply wI|apply wJ|apply wK)));try simp only [go_sem,simprocAttr,hb,aj])|fail|(with_reducible (first|apply oC|apply oJ|exact oK|apply wA|apply wB|apply wC hX hC|apply wD hX hC|apply wE hX hC af|apply wF hX hC af|apply wG|apply wH|apply And.intro))|((with_reducible refine oD ?_ ?_);first|fail|kernel_rfl)|((with_reducible (first|apply oE|apply oF));(iterate 3 exact rfl);all_goals (intro h;first|(exact absurd h (by decide))|((try simp only [go_sem,simprocAttr,hb,aj] at h);(try with_reducible intro K hK);simp only [go_sem,simprocAttr,hb,aj])))|((first|((with_reducible apply wL);exact rfl)|((with_reducible apply wM);exact rfl));all_goals (try ((with_reducible intro h);first|(exact absurd h (by decide))|(try simp only [go_sem,simprocAttr,hb,aj] at h))))|omega|((first|first|(refine aR hX hC hP [(10000,10000)] (bB g hl f x jd hp1) rfl rfl rfl ?_ ?_ ?_ ?_ ?_ ?_ rfl rfl ?_ ?_;(focus (simp only [go_sem,simprocAttr,hb,aj];done));(iterate 6 (focus (simp [go_sem,simprocAttr,hb,aj];done)));simp only [go_sem,simprocAttr,hb,aj,List.map_cons,List.map_nil])|refine aa hX hC hP (aV g x true hl) rfl rfl rfl (by simp only [go_sem,simprocAttr,hb,aj]) rfl ?_|refine aa hX hC hP (bk outs ((bu g x).getD k 0) oc) rfl rfl rfl (by simp only [go_sem,simprocAttr,hb,aj]) rfl ?_);try simp only [go_sem,simprocAttr,hb,aj])|(intro h))
 have hb:decide ((k:Int)<((bu g x).length:Int))=false:=decide_eq_false (by omega)
 have hsub:∀i∈bu g x,i∈outs:=fun i hi=>by
  obtain ⟨j,hj,rfl⟩:=List.mem_iff_getElem.1 hi
  have:=hg j (by omega)
  rwa [List.getD_eq_getElem?_getD,List.getElem?_eq_getElem hj] at this
 have Ea:∀i∈outs,0≤i∧i<g.es.length:=fun i hi=>(ig (uS cW hsub hlen i hi)).1
 rw [if_neg (fun ⟨i,h1,h2⟩=>h2 (hsub i h1))] at Gc
 subst Gc
 clear hk hg hge hsub hP
 repeat' (first|fail|((first|((with_reducible (first|apply oA|apply oB));exact rfl;intro K hK)|(refine hK _ ?_;clear hK K)|((with_reducible (first|apply oG|apply oH));iterate 3 exact rfl)|((with_reducible apply oI);(iterate 2 exact rfl);intro K hK)|(with_reducible (first|apply wI|apply wJ|apply wK)));try simp only [go_sem,simprocAttr,hb])|fail|(with_reducible (first|apply oC|apply oJ|exact oK|apply wA|apply wB|apply wC hX hC|apply wD hX hC|apply wE hX hC af|apply wF hX hC af|apply wG|apply wH|apply And.intro))|((with_reducible refine oD ?_ ?_);first|fail|kernel_rfl)|((with_reducible (first|apply oE|apply oF));(iterate 3 exact rfl);all_goals (intro h;first|(exact absurd h (by decide))|((try simp only [go_sem,simprocAttr,hb] at h);(try with_reducible intro K hK);simp only [go_sem,simprocAttr,hb])))|((first|((with_reducible apply wL);exact rfl)|((with_reducible apply wM);exact rfl));all_goals (try ((with_reducible intro h);first|(exact absurd h (by decide))|(try simp only [go_sem,simprocAttr,hb] at h))))|omega|((first|first|(refine aR hX hC hP [(10000,10000)] (bB g hl f x jd hp1) rfl rfl rfl ?_ ?_ ?_ ?_ ?_ ?_ rfl rfl ?_ ?_;(focus (simp only [go_sem,simprocAttr,hb];done));(iterate 6 (focus (simp [go_sem,simprocAttr,hb];done)));simp only [go_sem,simprocAttr,hb,List.map_cons,List.map_nil])|refine aa hX hC hP (aV g x true hl) rfl rfl rfl (by simp only [go_sem,simprocAttr,hb]) rfl ?_|refine aa hX hC hP (bk outs ((bu g x).getD k 0) oc) rfl rfl rfl (by simp only [go_sem,simprocAttr,hb]) rfl ?_);try simp only [go_sem,simprocAttr,hb])|(intro h))
 (refine dZ hX 10 45 72 (by simp only [go_sem,simprocAttr,hb]) rfl (by first|exact .inl rfl|exact .inr rfl) (by decide) ?_;simp only [go_sem,simprocAttr,hb])
 refine ak (fun k:Nat=>k≤outs.length) (fun k=>⟨[(0, .ptr 10000 0),(1,eN x),(2, .d (sI outs)),(11,eN k),(10, .ref 72)], [(10000, .box [eN g.n, .d (sE g.es), .d (sT f.row), .d (sI f.pl)]),(72, .tip 96 3 (((outs.take k).map (fQ g x)).map rT))]⟩) (fun k=>outs.length - k) 0 (by omega) ?_ ?_
 ·refine Le.of ?_ ?_<;>simp [go_sem,simprocAttr,hb]
 clear hb
 rintro k hk
 rcases Nat.lt_or_ge k outs.length with hlt|hge
 ·have hb:decide ((k:Int)<(outs.length:Int))=true:=decide_eq_true (by omega)
  have dQ:=rK (f:=fQ g x) (d:=0) hlt
  have G5:=Ea _ (aK (d:=0) hlt)
  have hlk:(outs.take k).length=k:=by simp;omega
  repeat' (first|fail|((first|((with_reducible (first|apply oA|apply oB));exact rfl;intro K hK)|(refine hK _ ?_;clear hK K)|((with_reducible (first|apply oG|apply oH));iterate 3 exact rfl)|((with_reducible apply oI);(iterate 2 exact rfl);intro K hK)|(with_reducible (first|apply wI|apply wJ|apply wK)));try simp only [go_sem,simprocAttr,hb,hlk])|fail|(with_reducible (first|apply oC|apply oJ|exact oK|apply wA|apply wB|apply wC hX hC|apply wD hX hC|apply wE hX hC af|apply wF hX hC af|apply wG|apply wH|apply And.intro))|((with_reducible refine oD ?_ ?_);first|fail|kernel_rfl)|((with_reducible (first|apply oE|apply oF));(iterate 3 exact rfl);all_goals (intro h;first|(exact absurd h (by decide))|((try simp only [go_sem,simprocAttr,hb,hlk] at h);(try with_reducible intro K hK);simp only [go_sem,simprocAttr,hb,hlk])))|((first|((with_reducible apply wL);exact rfl)|((with_reducible apply wM);exact rfl));all_goals (try ((with_reducible intro h);first|(exact absurd h (by decide))|(try simp only [go_sem,simprocAttr,hb,hlk] at h))))|omega|((first|first|(refine aR hX hC hP [(10000,10000)] (bB g hl f x jd hp1) rfl rfl rfl ?_ ?_ ?_ ?_ ?_ ?_ rfl rfl ?_ ?_;(focus (simp only [go_sem,simprocAttr,hb,hlk];done));(iterate 6 (focus (simp [go_sem,simprocAttr,hb,hlk];done)));simp only [go_sem,simprocAttr,hb,hlk,List.map_cons,List.map_nil])|refine aa hX hC hP (aV g x true hl) rfl rfl rfl (by simp only [go_sem,simprocAttr,hb,hlk]) rfl ?_|refine aa hX hC hP (bk outs ((bu g x).getD k 0) oc) rfl rfl rfl (by simp only [go_sem,simprocAttr,hb,hlk]) rfl ?_);try simp only [go_sem,simprocAttr,hb,hlk])|(intro h))
  refine ⟨k+1,by omega, ?_,by omega⟩
  refine Le.of ?_ ?_<;>simp [go_sem,simprocAttr,hb,hlk,dQ,fQ]
 have hb:decide ((k:Int)<(outs.length:Int))=false:=decide_eq_false (by omega)
 obtain rfl:k=outs.length:=by omega
 have ht:outs.take outs.length=outs:=List.take_of_length_le (by omega)
 clear hk hge
 by_cases h0:outs= []
 ·have hA:aJ g x outs= [(-1,x, -1)]:=if_pos h0
  have hb0:decide ((outs.length:Int)=0)=true:=decide_eq_true (by rw [h0];rfl)
  have hm0:(outs.map (fQ g x)).map rT= []:=by rw [h0];rfl
  repeat' (first|fail|((first|((with_reducible (first|apply oA|apply oB));exact rfl;intro K hK)|(refine hK _ ?_;clear hK K)|((with_reducible (first|apply oG|apply oH));iterate 3 exact rfl)|((with_reducible apply oI);(iterate 2 exact rfl);intro K hK)|(with_reducible (first|apply wI|apply wJ|apply wK)));try simp only [go_sem,simprocAttr,hb,ht,hb0,hm0,List.nil_append])|fail|(with_reducible (first|apply oC|apply oJ|exact oK|apply wA|apply wB|apply wC hX hC|apply wD hX hC|apply wE hX hC af|apply wF hX hC af|apply wG|apply wH|apply And.intro))|((with_reducible refine oD ?_ ?_);first|fail|kernel_rfl)|((with_reducible (first|apply oE|apply oF));(iterate 3 exact rfl);all_goals (intro h;first|(exact absurd h (by decide))|((try simp only [go_sem,simprocAttr,hb,ht,hb0,hm0,List.nil_append] at h);(try with_reducible intro K hK);simp only [go_sem,simprocAttr,hb,ht,hb0,hm0,List.nil_append])))|((first|((with_reducible apply wL);exact rfl)|((with_reducible apply wM);exact rfl));all_goals (try ((with_reducible intro h);first|(exact absurd h (by decide))|(try simp only [go_sem,simprocAttr,hb,ht,hb0,hm0,List.nil_append] at h))))|omega|((first|first|(refine aR hX hC hP [(10000,10000)] (bB g hl f x jd hp1) rfl rfl rfl ?_ ?_ ?_ ?_ ?_ ?_ rfl rfl ?_ ?_;(focus (simp only [go_sem,simprocAttr,hb,ht,hb0,hm0,List.nil_append];done));(iterate 6 (focus (simp [go_sem,simprocAttr,hb,ht,hb0,hm0,List.nil_append];done)));simp only [go_sem,simprocAttr,hb,ht,hb0,hm0,List.nil_append,List.map_cons,List.map_nil])|refine aa hX hC hP (aV g x true hl) rfl rfl rfl (by simp only [go_sem,simprocAttr,hb,ht,hb0,hm0,List.nil_append]) rfl ?_|refine aa hX hC hP (bk outs ((bu g x).getD k 0) oc) rfl rfl rfl (by simp only [go_sem,simprocAttr,hb,ht,hb0,hm0,List.nil_append]) rfl ?_);try simp only [go_sem,simprocAttr,hb,ht,hb0,hm0,List.nil_append])|(intro h))
  (refine dZ hX 10 80 72 (by simp only [go_sem,simprocAttr,hb,ht,hb0,hm0,List.nil_append]) rfl (by first|exact .inl rfl|exact .inr rfl) (by decide) ?_;simp only [go_sem,simprocAttr,hb,ht,hb0,hm0,List.nil_append])
  refine ak (fun k:Nat=>k≤f.row.length) (fun k=>⟨[(0, .ptr 10000 0),(1,eN x),(10, .ref 72),(12,eN (cI f.row x k).1),(13,eN ((cI f.row x k).2.1 - 1)),(14,eN k)], [(10000, .box [eN g.n, .d (sE g.es), .d (sT f.row), .d (sI f.pl)]),(72, .tip 96 3 ((aJ g x outs).map rT))]⟩) (fun k=>f.row.length - k) 0 (by omega) ?_ ?_
  ·refine Le.of ?_ ?_<;>simp [go_sem,simprocAttr,hb,ht,hb0,hm0,List.nil_append,cI,hA]
  rintro k hk
  rcases Nat.lt_or_ge k f.row.length with hlt|hge
  ·have hb:decide ((k:Int)<(f.row.length:Int))=true:=decide_eq_true (by omega)
   have hok:=cU (row:=f.row) (x:=x) k
   have dQ:=iF (row:=f.row) (x:=x) (k:=k)
   have pq:(cI f.row x k).1<0↔(cI f.row x k).1= -1:=by
    rcases hok with ⟨h1,_⟩|⟨a,b,c,h1,_⟩
    ·rw [h1];exact ⟨fun _=>rfl,fun _=>by decide⟩
    ·rw [h1];show (a:Int)<0↔(a:Int)= -1;omega
   repeat' (first|fail|((first|((with_reducible (first|apply oA|apply oB));exact rfl;intro K hK)|(refine hK _ ?_;clear hK K)|((with_reducible (first|apply oG|apply oH));iterate 3 exact rfl)|((with_reducible apply oI);(iterate 2 exact rfl);intro K hK)|(with_reducible (first|apply wI|apply wJ|apply wK)));try simp only [go_sem,simprocAttr,hb])|fail|(with_reducible (first|apply oC|apply oJ|exact oK|apply wA|apply wB|apply wC hX hC|apply wD hX hC|apply wE hX hC af|apply wF hX hC af|apply wG|apply wH|apply And.intro))|((with_reducible refine oD ?_ ?_);first|fail|kernel_rfl)|((with_reducible (first|apply oE|apply oF));(iterate 3 exact rfl);all_goals (intro h;first|(exact absurd h (by decide))|((try simp only [go_sem,simprocAttr,hb] at h);(try with_reducible intro K hK);simp only [go_sem,simprocAttr,hb])))|((first|((with_reducible apply wL);exact rfl)|((with_reducible apply wM);exact rfl));all_goals (try ((with_reducible intro h);first|(exact absurd h (by decide))|(try simp only [go_sem,simprocAttr,hb] at h))))|omega|((first|first|(refine aR hX hC hP [(10000,10000)] (bB g hl f x jd hp1) rfl rfl rfl ?_ ?_ ?_ ?_ ?_ ?_ rfl rfl ?_ ?_;(focus (simp only [go_sem,simprocAttr,hb];done));(iterate 6 (focus (simp [go_sem,simprocAttr,hb];done)));simp only [go_sem,simprocAttr,hb,List.map_cons,List.map_nil])|refine aa hX hC hP (aV g x true hl) rfl rfl rfl (by simp only [go_sem,simprocAttr,hb]) rfl ?_|refine aa hX hC hP (bk outs ((bu g x).getD k 0) oc) rfl rfl rfl (by simp only [go_sem,simprocAttr,hb]) rfl ?_);try simp only [go_sem,simprocAttr,hb])|(intro h))
   all_goals (try rw [pq] at*)
   all_goals (first|rw [if_neg (by assumption)] at dQ|(rw [if_pos (by assumption)] at dQ;first|rw [if_pos (by assumption)] at dQ|rw [if_neg (by assumption)] at dQ))
   all_goals (refine ⟨k+1,by omega, ?_,by omega⟩;refine Le.of ?_ ?_<;>simp [go_sem,simprocAttr,hb,dQ])
  have hb:decide ((k:Int)<(f.row.length:Int))=false:=decide_eq_false (by omega)
  obtain rfl:k=f.row.length:=by omega
  clear hk hge
  have htr:List.take f.row.length (f.row.map rT)=f.row.map rT:=List.take_of_length_le (by simp)
  have gA:=ki (g:=g) (x:=x) (outs:=outs)
  rcases cU (row:=f.row) (x:=x) f.row.length with ⟨hs,_⟩|⟨a,b,c,hs,hab,dK,_⟩
  ·have hS:aA g f x outs=(([],0),⟨aJ g x outs++f.row,f.pl++ [x]⟩):=by
    have e:aT f.row x=(-1,0,0):=hs
    unfold aA
    rw [e];simp;exact .inl (by decide)
   repeat' (first|(show cH _ .ret _ _;(try simp only [go_sem,simprocAttr,hb,hs,hS,htr,List.map_append,List.map_cons,List.map_nil,rI,List.length_append,List.length_map,List.length_take,List.length_drop]);(refine bT hX 113 rfl ?_;simp only [go_sem,simprocAttr,hb,hs,hS,htr,List.map_append,List.map_cons,List.map_nil,rI,List.length_append,List.length_map,List.length_take,List.length_drop]);first|(refine bT hX 124 rfl ?_;simp only [go_sem,simprocAttr,hb,hs,hS,htr,List.map_append,List.map_cons,List.map_nil,rI,List.length_append,List.length_map,List.length_take,List.length_drop])|(refine bT hX 156 rfl ?_;simp only [go_sem,simprocAttr,hb,hs,hS,htr,List.map_append,List.map_cons,List.map_nil,rI,List.length_append,List.length_map,List.length_take,List.length_drop]))|((first|((with_reducible (first|apply oA|apply oB));exact rfl;intro K hK)|(refine hK _ ?_;clear hK K)|((with_reducible (first|apply oG|apply oH));iterate 3 exact rfl)|((with_reducible apply oI);(iterate 2 exact rfl);intro K hK)|(with_reducible (first|apply wI|apply wJ|apply wK)));try simp only [go_sem,simprocAttr,hb,hs,hS,htr,List.map_append,List.map_cons,List.map_nil,rI,List.length_append,List.length_map,List.length_take,List.length_drop])|fail|(with_reducible (first|apply oC|apply oJ|exact oK|apply wA|apply wB|apply wC hX hC|apply wD hX hC|apply wE hX hC af|apply wF hX hC af|apply wG|apply wH|apply And.intro))|((with_reducible refine oD ?_ ?_);first|fail|kernel_rfl)|((with_reducible (first|apply oE|apply oF));(iterate 3 exact rfl);all_goals (intro h;first|(exact absurd h (by decide))|((try simp only [go_sem,simprocAttr,hb,hs,hS,htr,List.map_append,List.map_cons,List.map_nil,rI,List.length_append,List.length_map,List.length_take,List.length_drop] at h);(try with_reducible intro K hK);simp only [go_sem,simprocAttr,hb,hs,hS,htr,List.map_append,List.map_cons,List.map_nil,rI,List.length_append,List.length_map,List.length_take,List.length_drop])))|((first|((with_reducible apply wL);exact rfl)|((with_reducible apply wM);exact rfl));all_goals (try ((with_reducible intro h);first|(exact absurd h (by decide))|(try simp only [go_sem,simprocAttr,hb,hs,hS,htr,List.map_append,List.map_cons,List.map_nil,rI,List.length_append,List.length_map,List.length_take,List.length_drop] at h))))|omega|((first|first|(refine aR hX hC hP [(10000,10000)] (bB g hl f x jd hp1) rfl rfl rfl ?_ ?_ ?_ ?_ ?_ ?_ rfl rfl ?_ ?_;(focus (simp only [go_sem,simprocAttr,hb,hs,hS,htr,List.map_append,List.map_cons,List.map_nil,rI,List.length_append,List.length_map,List.length_take,List.length_drop];done));(iterate 6 (focus (simp [go_sem,simprocAttr,hb,hs,hS,htr,List.map_append,List.map_cons,List.map_nil,rI,List.length_append,List.length_map,List.length_take,List.length_drop];done)));simp only [go_sem,simprocAttr,hb,hs,hS,htr,List.map_append,List.map_cons,List.map_nil,rI,List.length_append,List.length_map,List.length_take,List.length_drop,List.map_cons,List.map_nil])|refine aa hX hC hP (aV g x true hl) rfl rfl rfl (by simp only [go_sem,simprocAttr,hb,hs,hS,htr,List.map_append,List.map_cons,List.map_nil,rI,List.length_append,List.length_map,List.length_take,List.length_drop]) rfl ?_|refine aa hX hC hP (bk outs ((bu g x).getD k 0) oc) rfl rfl rfl (by simp only [go_sem,simprocAttr,hb,hs,hS,htr,List.map_append,List.map_cons,List.map_nil,rI,List.length_append,List.length_map,List.length_take,List.length_drop]) rfl ?_);try simp only [go_sem,simprocAttr,hb,hs,hS,htr,List.map_append,List.map_cons,List.map_nil,rI,List.length_append,List.length_map,List.length_take,List.length_drop])|(intro h))
  ·have hS:aA g f x outs=(((f.row.take b).drop a,0),⟨f.row.take a++aJ g x outs++f.row.drop b,f.pl++ [x]⟩):=by
    have e:aT f.row x=((a:Int),(b:Int),(c:Int)):=hs
    unfold aA
    rw [e]
    have e1:(max (a:Int) 0).toNat=a:=by omega
    simp only [e1,Int.toNat_natCast]
   have mh:((b:Int) - 1+1)=b:=by omega
   repeat' (first|(show cH _ .ret _ _;(try simp only [go_sem,simprocAttr,hb,hs,hS,mh,htr,List.map_append,List.map_cons,List.map_nil,List.map_take,List.map_drop,rI,List.length_append,List.length_map,List.length_take,List.length_drop]);(refine bT hX 113 rfl ?_;simp only [go_sem,simprocAttr,hb,hs,hS,mh,htr,List.map_append,List.map_cons,List.map_nil,List.map_take,List.map_drop,rI,List.length_append,List.length_map,List.length_take,List.length_drop]);first|(refine bT hX 124 rfl ?_;simp only [go_sem,simprocAttr,hb,hs,hS,mh,htr,List.map_append,List.map_cons,List.map_nil,List.map_take,List.map_drop,rI,List.length_append,List.length_map,List.length_take,List.length_drop])|(refine bT hX 156 rfl ?_;simp only [go_sem,simprocAttr,hb,hs,hS,mh,htr,List.map_append,List.map_cons,List.map_nil,List.map_take,List.map_drop,rI,List.length_append,List.length_map,List.length_take,List.length_drop]))|((first|((with_reducible (first|apply oA|apply oB));exact rfl;intro K hK)|(refine hK _ ?_;clear hK K)|((with_reducible (first|apply oG|apply oH));iterate 3 exact rfl)|((with_reducible apply oI);(iterate 2 exact rfl);intro K hK)|(with_reducible (first|apply wI|apply wJ|apply wK)));try simp only [go_sem,simprocAttr,hb,hs,hS,mh,htr,List.map_append,List.map_cons,List.map_nil,List.map_take,List.map_drop,rI,List.length_append,List.length_map,List.length_take,List.length_drop])|fail|(with_reducible (first|apply oC|apply oJ|exact oK|apply wA|apply wB|apply wC hX hC|apply wD hX hC|apply wE hX hC af|apply wF hX hC af|apply wG|apply wH|apply And.intro))|((with_reducible refine oD ?_ ?_);first|fail|kernel_rfl)|((with_reducible (first|apply oE|apply oF));(iterate 3 exact rfl);all_goals (intro h;first|(exact absurd h (by decide))|((try simp only [go_sem,simprocAttr,hb,hs,hS,mh,htr,List.map_append,List.map_cons,List.map_nil,List.map_take,List.map_drop,rI,List.length_append,List.length_map,List.length_take,List.length_drop] at h);(try with_reducible intro K hK);simp only [go_sem,simprocAttr,hb,hs,hS,mh,htr,List.map_append,List.map_cons,List.map_nil,List.map_take,List.map_drop,rI,List.length_append,List.length_map,List.length_take,List.length_drop])))|((first|((with_reducible apply wL);exact rfl)|((with_reducible apply wM);exact rfl));all_goals (try ((with_reducible intro h);first|(exact absurd h (by decide))|(try simp only [go_sem,simprocAttr,hb,hs,hS,mh,htr,List.map_append,List.map_cons,List.map_nil,List.map_take,List.map_drop,rI,List.length_append,List.length_map,List.length_take,List.length_drop] at h))))|omega|((first|first|(refine aR hX hC hP [(10000,10000)] (bB g hl f x jd hp1) rfl rfl rfl ?_ ?_ ?_ ?_ ?_ ?_ rfl rfl ?_ ?_;(focus (simp only [go_sem,simprocAttr,hb,hs,hS,mh,htr,List.map_append,List.map_cons,List.map_nil,List.map_take,List.map_drop,rI,List.length_append,List.length_map,List.length_take,List.length_drop];done));(iterate 6 (focus (simp [go_sem,simprocAttr,hb,hs,hS,mh,htr,List.map_append,List.map_cons,List.map_nil,List.map_take,List.map_drop,rI,List.length_append,List.length_map,List.length_take,List.length_drop];done)));simp only [go_sem,simprocAttr,hb,hs,hS,mh,htr,List.map_append,List.map_cons,List.map_nil,List.map_take,List.map_drop,rI,List.length_append,List.length_map,List.length_take,List.length_drop,List.map_cons,List.map_nil])|refine aa hX hC hP (aV g x true hl) rfl rfl rfl (by simp only [go_sem,simprocAttr,hb,hs,hS,mh,htr,List.map_append,List.map_cons,List.map_nil,List.map_take,List.map_drop,rI,List.length_append,List.length_map,List.length_take,List.length_drop]) rfl ?_|refine aa hX hC hP (bk outs ((bu g x).getD k 0) oc) rfl rfl rfl (by simp only [go_sem,simprocAttr,hb,hs,hS,mh,htr,List.map_append,List.map_cons,List.map_nil,List.map_take,List.map_drop,rI,List.length_append,List.length_map,List.length_take,List.length_drop]) rfl ?_);try simp only [go_sem,simprocAttr,hb,hs,hS,mh,htr,List.map_append,List.map_cons,List.map_nil,List.map_take,List.map_drop,rI,List.length_append,List.length_map,List.length_take,List.length_drop])|(intro h))
 ·have hA:aJ g x outs=outs.map (fQ g x):=if_neg h0
  have hb0:decide ((outs.length:Int)=0)=false:=decide_eq_false fun h=>h0 (List.eq_nil_of_length_eq_zero (by omega))
  repeat' (first|fail|((first|((with_reducible (first|apply oA|apply oB));exact rfl;intro K hK)|(refine hK _ ?_;clear hK K)|((with_reducible (first|apply oG|apply oH));iterate 3 exact rfl)|((with_reducible apply oI);(iterate 2 exact rfl);intro K hK)|(with_reducible (first|apply wI|apply wJ|apply wK)));try simp only [go_sem,simprocAttr,hb,ht,hb0])|fail|(with_reducible (first|apply oC|apply oJ|exact oK|apply wA|apply wB|apply wC hX hC|apply wD hX hC|apply wE hX hC af|apply wF hX hC af|apply wG|apply wH|apply And.intro))|((with_reducible refine oD ?_ ?_);first|fail|kernel_rfl)|((with_reducible (first|apply oE|apply oF));(iterate 3 exact rfl);all_goals (intro h;first|(exact absurd h (by decide))|((try simp only [go_sem,simprocAttr,hb,ht,hb0] at h);(try with_reducible intro K hK);simp only [go_sem,simprocAttr,hb,ht,hb0])))|((first|((with_reducible apply wL);exact rfl)|((with_reducible apply wM);exact rfl));all_goals (try ((with_reducible intro h);first|(exact absurd h (by decide))|(try simp only [go_sem,simprocAttr,hb,ht,hb0] at h))))|omega|((first|first|(refine aR hX hC hP [(10000,10000)] (bB g hl f x jd hp1) rfl rfl rfl ?_ ?_ ?_ ?_ ?_ ?_ rfl rfl ?_ ?_;(focus (simp only [go_sem,simprocAttr,hb,ht,hb0];done));(iterate 6 (focus (simp [go_sem,simprocAttr,hb,ht,hb0];done)));simp only [go_sem,simprocAttr,hb,ht,hb0,List.map_cons,List.map_nil])|refine aa hX hC hP (aV g x true hl) rfl rfl rfl (by simp only [go_sem,simprocAttr,hb,ht,hb0]) rfl ?_|refine aa hX hC hP (bk outs ((bu g x).getD k 0) oc) rfl rfl rfl (by simp only [go_sem,simprocAttr,hb,ht,hb0]) rfl ?_);try simp only [go_sem,simprocAttr,hb,ht,hb0])|(intro h))
  refine ak (fun k:Nat=>k≤f.row.length) (fun k=>⟨[(0, .ptr 10000 0),(1,eN x),(10, .ref 72),(12,eN (cI f.row x k).1),(13,eN ((cI f.row x k).2.1 - 1)),(14,eN k)], [(10000, .box [eN g.n, .d (sE g.es), .d (sT f.row), .d (sI f.pl)]),(72, .tip 96 3 ((aJ g x outs).map rT))]⟩) (fun k=>f.row.length - k) 0 (by omega) ?_ ?_
  ·refine Le.of ?_ ?_<;>simp [go_sem,simprocAttr,hb,ht,hb0,cI,hA]
  rintro k hk
  rcases Nat.lt_or_ge k f.row.length with hlt|hge
  ·have hb:decide ((k:Int)<(f.row.length:Int))=true:=decide_eq_true (by omega)
   have hok:=cU (row:=f.row) (x:=x) k
   have dQ:=iF (row:=f.row) (x:=x) (k:=k)
   have pq:(cI f.row x k).1<0↔(cI f.row x k).1= -1:=by
    rcases hok with ⟨h1,_⟩|⟨a,b,c,h1,_⟩
    ·rw [h1];exact ⟨fun _=>rfl,fun _=>by decide⟩
    ·rw [h1];show (a:Int)<0↔(a:Int)= -1;omega
   repeat' (first|fail|((first|((with_reducible (first|apply oA|apply oB));exact rfl;intro K hK)|(refine hK _ ?_;clear hK K)|((with_reducible (first|apply oG|apply oH));iterate 3 exact rfl)|((with_reducible apply oI);(iterate 2 exact rfl);intro K hK)|(with_reducible (first|apply wI|apply wJ|apply wK)));try simp only [go_sem,simprocAttr,hb])|fail|(with_reducible (first|apply oC|apply oJ|exact oK|apply wA|apply wB|apply wC hX hC|apply wD hX hC|apply wE hX hC af|apply wF hX hC af|apply wG|apply wH|apply And.intro))|((with_reducible refine oD ?_ ?_);first|fail|kernel_rfl)|((with_reducible (first|apply oE|apply oF));(iterate 3 exact rfl);all_goals (intro h;first|(exact absurd h (by decide))|((try simp only [go_sem,simprocAttr,hb] at h);(try with_reducible intro K hK);simp only [go_sem,simprocAttr,hb])))|((first|((with_reducible apply wL);exact rfl)|((with_reducible apply wM);exact rfl));all_goals (try ((with_reducible intro h);first|(exact absurd h (by decide))|(try simp only [go_sem,simprocAttr,hb] at h))))|omega|((first|first|(refine aR hX hC hP [(10000,10000)] (bB g hl f x jd hp1) rfl rfl rfl ?_ ?_ ?_ ?_ ?_ ?_ rfl rfl ?_ ?_;(focus (simp only [go_sem,simprocAttr,hb];done));(iterate 6 (focus (simp [go_sem,simprocAttr,hb];done)));simp only [go_sem,simprocAttr,hb,List.map_cons,List.map_nil])|refine aa hX hC hP (aV g x true hl) rfl rfl rfl (by simp only [go_sem,simprocAttr,hb]) rfl ?_|refine aa hX hC hP (bk outs ((bu g x).getD k 0) oc) rfl rfl rfl (by simp only [go_sem,simprocAttr,hb]) rfl ?_);try simp only [go_sem,simprocAttr,hb])|(intro h))
   all_goals (try rw [pq] at*)
   all_goals (first|rw [if_neg (by assumption)] at dQ|(rw [if_pos (by assumption)] at dQ;first|rw [if_pos (by assumption)] at dQ|rw [if_neg (by assumption)] at dQ))
   all_goals (refine ⟨k+1,by omega, ?_,by omega⟩;refine Le.of ?_ ?_<;>simp [go_sem,simprocAttr,hb,dQ])
  have hb:decide ((k:Int)<(f.row.length:Int))=false:=decide_eq_false (by omega)
  obtain rfl:k=f.row.length:=by omega
  clear hk hge
  have htr:List.take f.row.length (f.row.map rT)=f.row.map rT:=List.take_of_length_le (by simp)
  have gA:=ki (g:=g) (x:=x) (outs:=outs)
  rcases cU (row:=f.row) (x:=x) f.row.length with ⟨hs,_⟩|⟨a,b,c,hs,hab,dK,_⟩
  ·have hS:aA g f x outs=(([],0),⟨aJ g x outs++f.row,f.pl++ [x]⟩):=by
    have e:aT f.row x=(-1,0,0):=hs
    unfold aA
    rw [e];simp;exact .inl (by decide)
   repeat' (first|(show cH _ .ret _ _;(try simp only [go_sem,simprocAttr,hb,hs,hS,htr,List.map_append,List.map_cons,List.map_nil,rI,List.length_append,List.length_map,List.length_take,List.length_drop]);(refine bT hX 113 rfl ?_;simp only [go_sem,simprocAttr,hb,hs,hS,htr,List.map_append,List.map_cons,List.map_nil,rI,List.length_append,List.length_map,List.length_take,List.length_drop]);first|(refine bT hX 124 rfl ?_;simp only [go_sem,simprocAttr,hb,hs,hS,htr,List.map_append,List.map_cons,List.map_nil,rI,List.length_append,List.length_map,List.length_take,List.length_drop])|(refine bT hX 156 rfl ?_;simp only [go_sem,simprocAttr,hb,hs,hS,htr,List.map_append,List.map_cons,List.map_nil,rI,List.length_append,List.length_map,List.length_take,List.length_drop]))|((first|((with_reducible (first|apply oA|apply oB));exact rfl;intro K hK)|(refine hK _ ?_;clear hK K)|((with_reducible (first|apply oG|apply oH));iterate 3 exact rfl)|((with_reducible apply oI);(iterate 2 exact rfl);intro K hK)|(with_reducible (first|apply wI|apply wJ|apply wK)));try simp only [go_sem,simprocAttr,hb,hs,hS,htr,List.map_append,List.map_cons,List.map_nil,rI,List.length_append,List.length_map,List.length_take,List.length_drop])|fail|(with_reducible (first|apply oC|apply oJ|exact oK|apply wA|apply wB|apply wC hX hC|apply wD hX hC|apply wE hX hC af|apply wF hX hC af|apply wG|apply wH|apply And.intro))|((with_reducible refine oD ?_ ?_);first|fail|kernel_rfl)|((with_reducible (first|apply oE|apply oF));(iterate 3 exact rfl);all_goals (intro h;first|(exact absurd h (by decide))|((try simp only [go_sem,simprocAttr,hb,hs,hS,htr,List.map_append,List.map_cons,List.map_nil,rI,List.length_append,List.length_map,List.length_take,List.length_drop] at h);(try with_reducible intro K hK);simp only [go_sem,simprocAttr,hb,hs,hS,htr,List.map_append,List.map_cons,List.map_nil,rI,List.length_append,List.length_map,List.length_take,List.length_drop])))|((first|((with_reducible apply wL);exact rfl)|((with_reducible apply wM);exact rfl));all_goals (try ((with_reducible intro h);first|(exact absurd h (by decide))|(try simp only [go_sem,simprocAttr,hb,hs,hS,htr,List.map_append,List.map_cons,List.map_nil,rI,List.length_append,List.length_map,List.length_take,List.length_drop] at h))))|omega|((first|first|(refine aR hX hC hP [(10000,10000)] (bB g hl f x jd hp1) rfl rfl rfl ?_ ?_ ?_ ?_ ?_ ?_ rfl rfl ?_ ?_;(focus (simp only [go_sem,simprocAttr,hb,hs,hS,htr,List.map_append,List.map_cons,List.map_nil,rI,List.length_append,List.length_map,List.length_take,List.length_drop];done));(iterate 6 (focus (simp [go_sem,simprocAttr,hb,hs,hS,htr,List.map_append,List.map_cons,List.map_nil,rI,List.length_append,List.length_map,List.length_take,List.length_drop];done)));simp only [go_sem,simprocAttr,hb,hs,hS,htr,List.map_append,List.map_cons,List.map_nil,rI,List.length_append,List.length_map,List.length_take,List.length_drop,List.map_cons,List.map_nil])|refine aa hX hC hP (aV g x true hl) rfl rfl rfl (by simp only [go_sem,simprocAttr,hb,hs,hS,htr,List.map_append,List.map_cons,List.map_nil,rI,List.length_append,List.length_map,List.length_take,List.length_drop]) rfl ?_|refine aa hX hC hP (bk outs ((bu g x).getD k 0) oc) rfl rfl rfl (by simp only [go_sem,simprocAttr,hb,hs,hS,htr,List.map_append,List.map_cons,List.map_nil,rI,List.length_append,List.length_map,List.length_take,List.length_drop]) rfl ?_);try simp only [go_sem,simprocAttr,hb,hs,hS,htr,List.map_append,List.map_cons,List.map_nil,rI,List.length_append,List.length_map,List.length_take,List.length_drop])|(intro h))
  ·have hS:aA g f x outs=(((f.row.take b).drop a,0),⟨f.row.take a++aJ g x outs++f.row.drop b,f.pl++ [x]⟩):=by
    have e:aT f.row x=((a:Int),(b:Int),(c:Int)):=hs
    unfold aA
    rw [e]
    have e1:(max (a:Int) 0).toNat=a:=by omega
    simp only [e1,Int.toNat_natCast]
   have mh:((b:Int) - 1+1)=b:=by omega
   repeat' (first|(show cH _ .ret _ _;(try simp only [go_sem,simprocAttr,hb,hs,hS,mh,htr,List.map_append,List.map_cons,List.map_nil,List.map_take,List.map_drop,rI,List.length_append,List.length_map,List.length_take,List.length_drop]);(refine bT hX 113 rfl ?_;simp only [go_sem,simprocAttr,hb,hs,hS,mh,htr,List.map_append,List.map_cons,List.map_nil,List.map_take,List.map_drop,rI,List.length_append,List.length_map,List.length_take,List.length_drop]);first|(refine bT hX 124 rfl ?_;simp only [go_sem,simprocAttr,hb,hs,hS,mh,htr,List.map_append,List.map_cons,List.map_nil,List.map_take,List.map_drop,rI,List.length_append,List.length_map,List.length_take,List.length_drop])|(refine bT hX 156 rfl ?_;simp only [go_sem,simprocAttr,hb,hs,hS,mh,htr,List.map_append,List.map_cons,List.map_nil,List.map_take,List.map_drop,rI,List.length_append,List.length_map,List.length_take,List.length_drop]))|((first|((with_reducible (first|apply oA|apply oB));exact rfl;intro K hK)|(refine hK _ ?_;clear hK K)|((with_reducible (first|apply oG|apply oH));iterate 3 exact rfl)|((with_reducible apply oI);(iterate 2 exact rfl);intro K hK)|(with_reducible (first|apply wI|apply wJ|apply wK)));try simp only [go_sem,simprocAttr,hb,hs,hS,mh,htr,List.map_append,List.map_cons,List.map_nil,List.map_take,List.map_drop,rI,List.length_append,List.length_map,List.length_take,List.length_drop])|fail|(with_reducible (first|apply oC|apply oJ|exact oK|apply wA|apply wB|apply wC hX hC|apply wD hX hC|apply wE hX hC af|apply wF hX hC af|apply wG|apply wH|apply And.intro))|((with_reducible refine oD ?_ ?_);first|fail|kernel_rfl)|((with_reducible (first|apply oE|apply oF));(iterate 3 exact rfl);all_goals (intro h;first|(exact absurd h (by decide))|((try simp only [go_sem,simprocAttr,hb,hs,hS,mh,htr,List.map_append,List.map_cons,List.map_nil,List.map_take,List.map_drop,rI,List.length_append,List.length_map,List.length_take,List.length_drop] at h);(try with_reducible intro K hK);simp only [go_sem,simprocAttr,hb,hs,hS,mh,htr,List.map_append,List.map_cons,List.map_nil,List.map_take,List.map_drop,rI,List.length_append,List.length_map,List.length_take,List.length_drop])))|((first|((with_reducible apply wL);exact rfl)|((with_reducible apply wM);exact rfl));all_goals (try ((with_reducible intro h);first|(exact absurd h (by decide))|(try simp only [go_sem,simprocAttr,hb,hs,hS,mh,htr,List.map_append,List.map_cons,List.map_nil,List.map_take,List.map_drop,rI,List.length_append,List.length_map,List.length_take,List.length_drop] at h))))|omega|((first|first|(refine aR hX hC hP [(10000,10000)] (bB g hl f x jd hp1) rfl rfl rfl ?_ ?_ ?_ ?_ ?_ ?_ rfl rfl ?_ ?_;(focus (simp only [go_sem,simprocAttr,hb,hs,hS,mh,htr,List.map_append,List.map_cons,List.map_nil,List.map_take,List.map_drop,rI,List.length_append,List.length_map,List.length_take,List.length_drop];done));(iterate 6 (focus (simp [go_sem,simprocAttr,hb,hs,hS,mh,htr,List.map_append,List.map_cons,List.map_nil,List.map_take,List.map_drop,rI,List.length_append,List.length_map,List.length_take,List.length_drop];done)));simp only [go_sem,simprocAttr,hb,hs,hS,mh,htr,List.map_append,List.map_cons,List.map_nil,List.map_take,List.map_drop,rI,List.length_append,List.length_map,List.length_take,List.length_drop,List.map_cons,List.map_nil])|refine aa hX hC hP (aV g x true hl) rfl rfl rfl (by simp only [go_sem,simprocAttr,hb,hs,hS,mh,htr,List.map_append,List.map_cons,List.map_nil,List.map_take,List.map_drop,rI,List.length_append,List.length_map,List.length_take,List.length_drop]) rfl ?_|refine aa hX hC hP (bk outs ((bu g x).getD k 0) oc) rfl rfl rfl (by simp only [go_sem,simprocAttr,hb,hs,hS,mh,htr,List.map_append,List.map_cons,List.map_nil,List.map_take,List.map_drop,rI,List.length_append,List.length_map,List.length_take,List.length_drop]) rfl ?_);try simp only [go_sem,simprocAttr,hb,hs,hS,mh,htr,List.map_append,List.map_cons,List.map_nil,List.map_take,List.map_drop,rI,List.length_append,List.length_map,List.length_take,List.length_drop])|(intro h))
end Go.Ab
end
section
namespace Go.Ab
open Go.Proofs
attribute [local congr] ACall.congr
set_option maxRecDepth 10000
set_option maxHeartbeats 4000000
def vI (ls:List (List Int)):List (List D):=ls.map fun l=> [sI l]
theorem vI_length {ls:List (List Int)} :(vI ls).length=ls.length:=by simp [vI]
theorem iV {ls:List (List Int)} {k:Nat} (h:k<ls.length) (d:List D):(vI ls).getD k d= [sI (ls.getD k [])]:=by
 simp [vI,List.getD_eq_getElem?_getD,List.getElem?_eq_getElem h]
attribute [go_sem] vI_length
def yQ (l:List Int) (i:Nat):List Int:=l.take i++l.drop (i+1)
def Ee:Nat→List Int→List (List Int)
 |0,_=> [[]]
 |n+1,l=>(List.range l.length).flatMap fun i=>(Ee n (yQ l i)).map fun t=>l.getD i 0::t
def Od (n:Nat) (l:List Int) (k:Nat):List (List Int):=(List.range k).flatMap fun i=>(Ee n (yQ l i)).map fun t=>l.getD i 0::t
def Oe:Nat→Nat
 |0=>1
 |n+1=>(n+1)*Oe n
end Go.Ab
end
section
namespace Go.Ab
open Go.Proofs
attribute [local congr] ACall.congr
set_option maxRecDepth 10000
set_option maxHeartbeats 8000000
def Jd (g:Gr):Nat→Fr→Bool
 |0,f=>decide ((f.pl.length:Int)=g.n)
 |m+1,f=>decide ((f.pl.length:Int)=g.n)||(List.range g.n.toNat).any fun x=>aC g f (x:Int)&&(Ee (bu g (x:Int)).length (bu g (x:Int))).any fun o=>Jd g m (aA g f (x:Int) o).2
def Of (g:Gr) (m:Nat) (f:Fr) (x:Nat):Bool:=aC g f (x:Int)&&(Ee (bu g (x:Int)).length (bu g (x:Int))).any fun o=>Jd g m (aA g f (x:Int) o).2
theorem Af {g:Gr} {f:Fr} {x:Int} {o:List Int} :(aA g f x o).2.row.length≤f.row.length+o.length+1∧(aA g f x o).2.pl.length=f.pl.length+1:=by
 obtain ⟨a,b,ha,hb,hab,dK⟩:=tf f.row x
 have:=ki (g:=g) (x:=x) (outs:=o)
 have e:aA g f x o=(((f.row.take b).drop a,0),⟨f.row.take a++aJ g x o++f.row.drop b,f.pl++ [x]⟩):=by
  simp only [aA,ha,hb,Int.toNat_natCast]
 rw [e]
 refine ⟨?_,by simp⟩
 show (f.row.take a++aJ g x o++f.row.drop b).length≤_
 rw [List.length_append,List.length_append,List.length_take,List.length_drop]
 omega
end Go.Ab
end
section
namespace Go.Ab
open Go.Proofs
attribute [local congr] ACall.congr
set_option maxRecDepth 10000
set_option maxHeartbeats 4000000
theorem rN (g:Gr) (hl:g.es.length≤9223372036854775807) (hm:aU g=false):Spec Tryz.prog 99 (Args [eG g]) [] (.tup [eN (fZ g).1,eN (fZ g).2.1, .d (sI (fZ g).2.2)]) []:=by
 (refine Spec.intro (C:=T.cfg [] []) (rs:= [.t 2, .t 3, .t 4]) (T.aq _ _) Tryz.func99 rfl rfl Tryz.ntmps99 Tryz.results99 (by simp [AObj.isNest]) (by simp [AObj.isNest]) (by kernel_rfl) ?_;intro X hX hP hC aN aO vals hA;refine ⟨_,by simp,hA, ?_⟩;have af:X.P.follows .mixedOrders=true:=(by rw [hP];exact T.mixed);clear aN aO)
 repeat' (first|fail|((first|((with_reducible (first|apply oA|apply oB));exact rfl;intro K hK)|(refine hK _ ?_;clear hK K)|((with_reducible (first|apply oG|apply oH));iterate 3 exact rfl)|((with_reducible apply oI);(iterate 2 exact rfl);intro K hK)|(with_reducible (first|apply wI|apply wJ|apply wK)));try simp only [go_sem,simprocAttr,hm])|fail|(with_reducible (first|apply oC|apply oJ|exact oK|apply wA|apply wB|apply wC hX hC|apply wD hX hC|apply wE hX hC af|apply wF hX hC af|apply wG|apply wH|apply And.intro))|((with_reducible refine oD ?_ ?_);first|fail|kernel_rfl)|((with_reducible (first|apply oE|apply oF));(iterate 3 exact rfl);all_goals (intro h;first|(exact absurd h (by decide))|((try simp only [go_sem,simprocAttr,hm] at h);(try with_reducible intro K hK);simp only [go_sem,simprocAttr,hm])))|((first|((with_reducible apply wL);exact rfl)|((with_reducible apply wM);exact rfl));all_goals (try ((with_reducible intro h);first|(exact absurd h (by decide))|(try simp only [go_sem,simprocAttr,hm] at h))))|omega|((first|first|refine aa hX hC hP (cR g hl) rfl rfl rfl (by simp only [go_sem,simprocAttr,hm]) rfl ?_);try simp only [go_sem,simprocAttr,hm])|(intro h))
 all_goals simp [fZ,gO,hm]
theorem rO (g:Gr) (hl:g.es.length≤9223372036854775807):Spec Tryz.prog 99 (Args [eG g]) [] (.tup [eN (fZ g).1,eN (fZ g).2.1, .d (sI (fZ g).2.2)]) []:=by
 cases hm:aU g with
 |false=>exact rN g hl hm
 |true=>exact sH g (by have:=aZ hm;omega)
theorem aQ (g:Gr) (hl:g.es.length≤9223372036854775807):Spec Tryz.prog 72 (Args [eG g]) [] (eB (decide ((cr g).1=0))) []:=by
 rw [FI]
 (refine Spec.intro (C:=T.cfg [] []) (rs:= [.t 2]) (T.aq _ _) Tryz.func72 rfl rfl Tryz.ntmps72 Tryz.results72 (by simp [AObj.isNest]) (by simp [AObj.isNest]) (by kernel_rfl) ?_;intro X hX hP hC aN aO vals hA;refine ⟨_,by simp,hA, ?_⟩;have af:X.P.follows .mixedOrders=true:=(by rw [hP];exact T.mixed);clear aN aO)
 repeat' (first|fail|((first|((with_reducible (first|apply oA|apply oB));exact rfl;intro K hK)|(refine hK _ ?_;clear hK K)|((with_reducible (first|apply oG|apply oH));iterate 3 exact rfl)|((with_reducible apply oI);(iterate 2 exact rfl);intro K hK)|(with_reducible (first|apply wI|apply wJ|apply wK)));try simp only [go_sem,simprocAttr])|fail|(with_reducible (first|apply oC|apply oJ|exact oK|apply wA|apply wB|apply wC hX hC|apply wD hX hC|apply wE hX hC af|apply wF hX hC af|apply wG|apply wH|apply And.intro))|((with_reducible refine oD ?_ ?_);first|fail|kernel_rfl)|((with_reducible (first|apply oE|apply oF));(iterate 3 exact rfl);all_goals (intro h;first|(exact absurd h (by decide))|((try simp only [go_sem,simprocAttr] at h);(try with_reducible intro K hK);simp only [go_sem,simprocAttr])))|((first|((with_reducible apply wL);exact rfl)|((with_reducible apply wM);exact rfl));all_goals (try ((with_reducible intro h);first|(exact absurd h (by decide))|(try simp only [go_sem,simprocAttr] at h))))|omega|((first|first|refine aa hX hC hP (rO g hl) rfl rfl rfl (by simp only [go_sem,simprocAttr]) rfl ?_);try simp only [go_sem,simprocAttr])|(intro h))
end Go.Ab
end
section
namespace Go.Ab
open Go.Proofs
attribute [local congr] ACall.congr
set_option maxRecDepth 10000
set_option maxHeartbeats 4000000
def g9:Gr:=⟨3, [(0,1),(0,2),(1,2)]⟩
def PJ:Fr:=⟨[], []⟩
def PK:Fr:=⟨[(0,0,1),(1,0,2)], [0]⟩
def PL:Fr:=⟨[(2,1,2),(1,0,2)], [0,1]⟩
def PM:Fr:=⟨[(-1,2, -1)], [0,1,2]⟩
end Go.Ab
end
section
namespace Go.Ab
open Go.Proofs
set_option maxRecDepth 10000
def Ag (g:Gr) (t:It):Prop:=(t.1= -1∧t.2.2= -1)∨(0≤t.1∧t.1<g.es.length∧t.2.1=(g.es.getD t.1.toNat (0,0)).1∧t.2.2=(g.es.getD t.1.toNat (0,0)).2)
structure gP (g:Gr) (f:Fr):Prop where
 it:∀t∈f.row,Ag g t
 pl:f.pl.Nodup
 FM:∀x∈f.pl,0≤x∧x<g.n
theorem jK {row:List It} {x:Int} :∀k:Nat,(cI row x k).2.2=fJ row x k
 |0=>rfl
 |k+1=>by
  rw [iF,eD]
  split
  ·show (cI row x k).2.2+1=_
   rw [jK k]
  ·exact jK k
theorem oy {row:List It} {x:Int} {j:Nat} :∀d:Nat,fJ row x j≤fJ row x (j+d)
 |0=>Int.le_refl _
 |d+1=>by
  have:=oy (row:=row) (x:=x) (j:=j) d
  rw [← Nat.add_assoc,eD]
  split<;>omega
theorem jL {row:List It} {x:Int} :∀ {k:Nat},(∀j,j<k→(row.getD j (0,0,0)).2.2≠x)→fJ row x k=0
 |0,_=>rfl
 |k+1,h=>by
  rw [eD,if_neg (h k (by omega))]
  exact jL fun j hj=>h j (by omega)
theorem oz {row:List It} {x:Int} {b:Nat} :∀ {d:Nat},(∀j,b≤j→j<b+d→(row.getD j (0,0,0)).2.2≠x)→fJ row x (b+d)=fJ row x b
 |0,_=>rfl
 |d+1,h=>by
  rw [← Nat.add_assoc,eD,if_neg (h (b+d) (by omega) (by omega))]
  exact oz fun j h1 h2=>h j h1 (by omega)
theorem gu {f:Edge→Int} {g:Gr} {x:Int} (h0:0≤x) (h1:x<g.n):bp f g x=bg f g.es g.es.length x:=if_pos ⟨h0,h1⟩
theorem oL {g:Gr} {e:Int} (h0:0≤e) (h1:e<g.es.length):0<bA g (g.es.getD e.toNat (0,0)).2:=by
 refine List.length_pos_iff.2 fun h=> ?_
 have hm:e∈bg (·.2) g.es g.es.length (g.es.getD e.toNat (0,0)).2:=by
  simp only [bg,List.mem_map,List.mem_filter,List.mem_range,decide_eq_true_eq]
  exact ⟨e.toNat,⟨by omega,rfl⟩,by simp;omega⟩
 rw [h] at hm;cases hm
theorem th {row:List It} {p:It→Bool} {a b:Nat} (hb:b≤row.length):((row.take b).drop a).any p=true↔∃j,a≤j∧j<b∧p (row.getD j (0,0,0))=true:=by
 rw [List.any_eq_true]
 constructor
 ·rintro ⟨t,ht,hp⟩
  obtain ⟨k,hk,rfl⟩:=List.mem_iff_getElem.1 ht
  simp only [List.length_drop,List.length_take] at hk
  refine ⟨a+k,by omega,by omega, ?_⟩
  rw [List.getD_eq_getElem?_getD,List.getElem?_eq_getElem (show a+k<row.length by omega)]
  simpa using hp
 ·rintro ⟨j,h1,h2,hp⟩
  rw [List.getD_eq_getElem?_getD,List.getElem?_eq_getElem (show j<row.length by omega)] at hp
  refine ⟨row[j], ?_,hp⟩
  refine List.mem_iff_getElem.2 ⟨j - a,by simp;omega, ?_⟩
  simp only [List.getElem_drop,List.getElem_take]
  congr 1;omega
theorem Ag.head {g:Gr} (hm:aU g=true) {t:It} (h:Ag g t):(0≤t.1↔t.2.2≠ -1)∧ -1≤t.2.2:=by
 rcases h with ⟨h1,h2⟩|⟨h1,h2,_,h4⟩
 ·omega
 ·obtain ⟨_,h5,_⟩:=gj hm (k:=t.1.toNat) (by omega)
  omega
theorem nI {g:Gr} (hm:aU g=true) {f:Fr} (hi:gP g f) (x:Int):gr g f x=aC g f x:=by
 by_cases hx:x<0∨g.n≤x∨x∈f.pl
 ·rw [gr,aC,if_pos hx,if_pos hx]
 rw [gr,aC,if_neg hx,if_neg hx]
 have hx0:0≤x∧x<g.n:=by
  constructor
  ·exact Int.not_lt.1 fun h=>hx (.inl h)
  ·exact Int.not_le.1 fun h=>hx (.inr (.inl h))
 have hmem:∀j,j<f.row.length→Ag g (f.row.getD j (0,0,0)):=fun j hj=>hi.it _ (aK hj)
 rw [gu hx0.1 hx0.2]
 have hN:(bg (fun e=>e.2) g.es g.es.length x).length=bA g x:=rfl
 rw [hN]
 have FN:(aT f.row x).2.2=fJ f.row x f.row.length:=jK _
 by_cases h0:bA g x=0
 ·rw [if_pos h0,h0,decide_eq_true rfl,Bool.true_or,Bool.and_true,decide_eq_true_eq,FN,jL]
  ·rfl
  ·intro j hj he
   rcases hmem j hj with ⟨_,h2⟩|⟨h1,h2,_,h4⟩
   ·omega
   ·have:=oL h1 h2
    rw [← h4,he] at this
    omega
 ·rw [if_neg h0,decide_eq_false h0,Bool.false_or,FN]
  generalize bA g x=need at h0
  rcases cU (row:=f.row) (x:=x) f.row.length with ⟨hs,hno⟩|⟨a,b,c,hs,hab,dK,hc0,dL,ha,hb,hlo,hhi⟩
  ·rw [jL hno]
   have e1:decide ((0:Int)=(need:Int))=false:=decide_eq_false (by omega)
   rw [e1,Bool.false_and,Bool.and_false]
  ·have hs':aT f.row x=((a:Int),(b:Int),(c:Int)):=hs
   have MU:fJ f.row x f.row.length=c:=by rw [← FN,hs']
   rw [hs',MU]
   simp only [Int.toNat_natCast]
   rw [Bool.and_comm]
   by_cases GK:¬(c:Int)=need
   ·rw [decide_eq_false GK,Bool.and_false,Bool.and_false]
   rw [Decidable.not_not] at GK
   rw [decide_eq_true GK,Bool.and_true,Bool.and_true,pG]
   congr 1
   rw [Bool.eq_iff_iff,th dK,List.any_eq_true]
   have ma:fJ f.row x a=0:=jL hlo
   have PN:fJ f.row x (a+1)=1:=by rw [eD,if_pos ha,ma];rfl
   have mb:fJ f.row x b=need:=by
    have h:=oz (row:=f.row) (x:=x) (b:=b) (d:=f.row.length - b) fun j h1 h2=>hhi j h1 (by omega)
    rw [show b+(f.row.length - b)=f.row.length by omega,MU] at h
    omega
   have PO:fJ f.row x (b - 1)+1=need:=by
    have h:=eD (row:=f.row) (x:=x) (k:=b - 1)
    rw [if_pos hb,show b - 1+1=b by omega,mb] at h
    omega
   constructor
   ·rintro ⟨j,h1,h2,hp⟩
    simp only [kg,Bool.and_eq_true,decide_eq_true_eq] at hp
    have hja:j≠a:=fun e=>hp.1 (by rw [e];exact ha)
    have hjb:j≠b - 1:=fun e=>hp.1 (by rw [e];exact hb)
    have g1:=oy (row:=f.row) (x:=x) (j:=a+1) (j - (a+1))
    rw [show a+1+(j - (a+1))=j by omega] at g1
    have g2:=oy (row:=f.row) (x:=x) (j:=j) (b - 1 - j)
    rw [show j+(b - 1 - j)=b - 1 by omega] at g2
    exact ⟨j,List.mem_range.2 (by omega),lK.2 ⟨⟨hp.1,((hmem j (by omega)).head hm).1.2 hp.2⟩,by omega,by omega⟩⟩
   ·rintro ⟨j,hj,hl⟩
    have hj:=List.mem_range.1 hj
    obtain ⟨⟨h1,h2⟩,h3,h4⟩:=lK.1 hl
    refine ⟨j, ?_, ?_, ?_⟩
    ·refine Nat.not_lt.1 fun h=> ?_
     have:=jL (row:=f.row) (x:=x) (k:=j) fun i hi=>hlo i (by omega)
     omega
    ·refine Nat.not_le.1 fun h=> ?_
     have:=oz (row:=f.row) (x:=x) (b:=b) (d:=j - b) fun i h1 h2=>hhi i h1 (by omega)
     rw [show b+(j - b)=j by omega] at this
     omega
    ·simp only [kg,Bool.and_eq_true,decide_eq_true_eq]
     exact ⟨h1,((hmem j hj).head hm).1.1 h2⟩
theorem qb:∀ {ms os:List Int},ms.Nodup→(∀i∈ms,i∈os)→os.length=ms.length→os.Perm ms
 | [],os,_,_,hl=>by
   have h:os= []:=List.eq_nil_of_length_eq_zero (by simpa using hl)
   rw [h]
 |m::ms,os,hn,hs,hl=>by
  rw [List.nodup_cons] at hn
  have hm:=hs m (List.mem_cons_self ..)
  refine (List.perm_cons_erase hm).trans (List.Perm.cons m (qb hn.2 (fun j hj=> ?_) ?_))
  ·have:j≠m:=fun e=>hn.1 (e ▸ hj)
   exact (List.mem_erase_of_ne this).2 (hs j (List.mem_cons_of_mem _ hj))
  ·rw [List.length_erase_of_mem hm,hl];simp
theorem pH {g:Gr} {x:Int} :(bu g x).Pairwise (· ≤ ·):=by
 unfold bu bg
 refine List.Pairwise.map _ (fun a b (h:a<b)=> ?_) (List.Pairwise.filter _ List.pairwise_lt_range)
 show (a:Int)≤b
 omega
theorem rP {l m:List Int} (h:l.Perm m) (hm:m.Pairwise (· ≤ ·)):gN l=m:=by
 have h1:(gN l).Pairwise (· ≤ ·):=by
  have:=List.pairwise_mergeSort (le:=fun a b:Int=>decide (a≤b)) (by simp;omega) (by simp;omega) l
  simpa [gN] using this
 have h2:(gN l).Perm m:=(by unfold gN;exact (List.mergeSort_perm l _).trans h)
 exact h2.eq_of_pairwise (fun a b _ _ h1 h2=>Int.le_antisymm h1 h2) h1 hm
theorem aS {g:Gr} {f:Fr} {x:Int} (h:aC g f x=true):0≤x∧x<g.n∧x∉f.pl:=by
 unfold aC at h
 by_cases hx:x<0∨g.n≤x∨x∈f.pl
 ·rw [if_pos hx] at h;cases h
 ·exact ⟨Int.not_lt.1 fun h=>hx (.inl h),Int.not_le.1 fun h=>hx (.inr (.inl h)),fun h=>hx (.inr (.inr h))⟩
theorem Cn {g:Gr} (hm:aU g=true) {f:Fr} (hi:gP g f) (x:Int) (outs:List Int):jh g f x outs=cV g f x outs:=by
 rw [jh,cV,nI hm hi]
 cases hR:aC g f x with
 |false=>rw [if_pos rfl,if_pos rfl]
 |true=>
  obtain ⟨h0,h1,h2⟩:=aS hR
  have ht:¬(true=false):=by simp
  rw [if_neg ht,if_neg ht,gu h0 h1]
  show (if gN outs≠bu g x then _ else aA g f x outs)=_
  by_cases hs:gN outs=bu g x
  ·rw [if_neg (fun h=>h hs),if_neg]
   rintro (h|⟨i,h3,h4⟩)
   ·exact h (by rw [← hs,fh])
   ·exact h4 (wu.1 (hs ▸ h3))
  ·rw [if_pos hs,if_pos]
   refine Decidable.byContradiction fun h=>hs ?_
   have hl:outs.length=(bu g x).length:=Decidable.byContradiction fun e=>h (.inl e)
   exact rP (qb cW (fun i hi=>Decidable.byContradiction fun e=>h (.inr ⟨i,hi,e⟩)) hl) pH
theorem Co {g:Gr} {x:Int} {outs:List Int} (ho:∀i∈outs,i∈bu g x):∀t∈aJ g x outs,Ag g t:=by
 intro t ht
 unfold aJ at ht
 split at ht
 ·rw [List.mem_singleton] at ht
  rw [ht];exact .inl ⟨rfl,rfl⟩
 ·obtain ⟨i,hi,rfl⟩:=List.mem_map.1 ht
  obtain ⟨⟨h1,h2⟩,h3⟩:=ig (ho i hi)
  exact .inr ⟨h1,h2,h3.symm,rfl⟩
theorem Cp {g:Gr} {f:Fr} (hi:gP g f) {x:Int} (hR:aC g f x=true) {outs:List Int} (ho:∀i∈outs,i∈bu g x):gP g (aA g f x outs).2:=by
 obtain ⟨h0,h1,h2⟩:=aS hR
 refine ⟨fun t ht=> ?_, ?_,fun y hy=> ?_⟩
 ·simp only [aA,List.mem_append] at ht
  rcases ht with (ht|ht)|ht
  ·exact hi.it t (List.mem_of_mem_take ht)
  ·exact Co ho t ht
  ·exact hi.it t (List.mem_of_mem_drop ht)
 ·show (f.pl++ [x]).Nodup
  rw [List.nodup_append]
  refine ⟨hi.pl,by simp,fun a ha b hb e=>h2 ?_⟩
  rw [List.mem_singleton] at hb
  rw [← hb, ← e];exact ha
 ·have hy:y∈f.pl++ [x]:=hy
  rcases List.mem_append.1 hy with h|h
  ·exact hi.FM y h
  ·rw [List.mem_singleton] at h
   rw [h];exact ⟨h0,h1⟩
end Go.Ab
end
section
namespace Go.Ab
open Go.Proofs
set_option maxRecDepth 10000
def kM (x:Int) (t:It):Bool:=decide (t.2.2=x)
structure Ah (x:Int) (X:List It):Prop where
 fst:∃p X',X=p::X'∧p.2.2=x
 Ds:∃X' q,X=X'++ [q]∧q.2.2=x
 al:∀t∈X,t.2.2=x∨t.2.2= -1
def fW (x:Int) (l:List It):Prop:=∀t∈l,t.2.2≠x
theorem fW.app {x:Int} {l m:List It} (h:fW x l) (h':fW x m):fW x (l++m):=fun t ht=>(List.mem_append.1 ht).elim (h t) (h' t)
theorem fW.left {x:Int} {l m:List It} (h:fW x (l++m)):fW x l:=fun t ht=>h t (List.mem_append.2 (.inl ht))
theorem fW.right {x:Int} {l m:List It} (h:fW x (l++m)):fW x m:=fun t ht=>h t (List.mem_append.2 (.inr ht))
theorem Ah.MV {x y:Int} {X:List It} (h:Ah x X) (hxy:x≠y) (hy:0≤y):fW y X:=fun t ht e=>by
 rcases h.al t ht with h1|h1<;>omega
theorem kj {row:List It} {x:Int} :∀ {k:Nat},k≤row.length→fJ row x k=((row.take k).countP (kM x):Nat)
 |0,_=>by simp [fJ]
 |k+1,h=>by
  rw [eD,kj (k:=k) (by omega),List.take_add_one,List.getElem?_eq_getElem (show k<row.length by omega),List.countP_append]
  simp only [Option.toList,List.countP_cons,List.countP_nil,kM,decide_eq_true_eq,List.getD_eq_getElem?_getD,List.getElem?_eq_getElem (show k<row.length by omega),Option.getD_some]
  split<;>simp
theorem Ai {A X C:List It} {p:It} {X':List It} (h:X=p::X'):(A++X++C).getD A.length (0,0,0)=p:=by
 subst h;simp [List.getD_eq_getElem?_getD]
theorem Aj {A X C:List It} {q:It} {X':List It} (h:X=X'++ [q]):(A++X++C).getD (A.length+X.length - 1) (0,0,0)=q:=by
 subst h
 have e:A.length+(X'++ [q]).length - 1=(A++X').length:=by simp
 rw [e,show A++(X'++ [q])++C=(A++X')++([q]++C) by simp]
 simp [List.getD_eq_getElem?_getD]
theorem Ak {A L:List It} {j:Nat} (h:j<A.length):(A++L).getD j (0,0,0)∈A:=by
 rw [List.getD_eq_getElem?_getD,List.getElem?_append_left h,List.getElem?_eq_getElem h]
 exact List.getElem_mem h
theorem Al {A L:List It} {j:Nat} (h:A.length≤j) (h':j<(A++L).length):(A++L).getD j (0,0,0)∈L:=by
 rw [List.length_append] at h'
 rw [List.getD_eq_getElem?_getD,List.getElem?_append_right h,List.getElem?_eq_getElem (by omega)]
 exact List.getElem_mem _
theorem yR {A X C:List It} {x:Int} (hA:fW x A) (hC:fW x C) (hX:Ah x X):
 (aT (A++X++C) x).1=(A.length:Int)∧(aT (A++X++C) x).2.1=((A.length+X.length:Nat):Int)∧(aT (A++X++C) x).2.2=(X.countP (kM x):Nat):=by
 have zK:(aT (A++X++C) x).2.2=(X.countP (kM x):Nat):=by
  unfold aT
  rw [jK,kj (Nat.le_refl _),List.take_length,List.countP_append,List.countP_append]
  have h1:A.countP (kM x)=0:=List.countP_eq_zero.2 fun t ht=>by simp [kM,hA t ht]
  have h2:C.countP (kM x)=0:=List.countP_eq_zero.2 fun t ht=>by simp [kM,hC t ht]
  rw [h1,h2];simp
 obtain ⟨p,X',e1,hp⟩:=hX.fst
 obtain ⟨PR,q,e2,hq⟩:=hX.Ds
 have g1:=Ai (A:=A) (C:=C) e1
 have g2:=Aj (A:=A) (C:=C) e2
 have LQ:0<X.length:=by rw [e1];simp
 have hlen:(A++X++C).length=A.length+X.length+C.length:=by simp;omega
 rcases cU (row:=A++X++C) (x:=x) (A++X++C).length with ⟨_,hno⟩|⟨a,b,c,hs,hab,dK,hc0,dL,ha,hb,hlo,hhi⟩
 ·exact absurd (by rw [g1];exact hp) (hno A.length (by omega))
 ·have hs':aT (A++X++C) x=((a:Int),(b:Int),(c:Int)):=hs
  refine ⟨?_, ?_,zK⟩
  ·rw [hs']
   have h1:¬A.length<a:=fun h=>hlo _ h (by rw [g1];exact hp)
   have h2:¬a<A.length:=fun h=>hA _ (by have:=Ak (L:=X++C) h;rw [← List.append_assoc] at this;exact this) ha
   simp only;omega
  ·rw [hs']
   have h1:¬b<A.length+X.length:=fun h=>hhi (A.length+X.length - 1) (by omega) (by omega) (by rw [g2];exact hq)
   have h2:¬A.length+X.length<b:=fun h=>hC _ (Al (A:=A++X) (j:=b - 1) (by simp;omega) (by omega)) hb
   simp only;omega
theorem rQ {g:Gr} (hm:aU g=true) {f:Fr} (hi:gP g f) {A X C:List It} {x:Int} (h0:0≤x) (h1:x<g.n) (hp:x∉f.pl) (hr:f.row=A++X++C) (hA:fW x A) (hC:fW x C) (hX:Ah x X)
 (hc:X.countP (kM x)=bA g x):aC g f x=true:=by
 rw [← nI hm hi,gr,if_neg (by rintro (h|h|h);omega;omega;exact hp h)]
 obtain ⟨e1,e2,e3⟩:=yR hA hC hX
 rw [hr,e1,e2,e3,gu h0 h1,Bool.and_eq_true,decide_eq_true_eq]
 refine ⟨by rw [hc];rfl, ?_⟩
 rw [Bool.or_eq_true];right
 simp only [pG,Int.toNat_natCast]
 rw [List.take_append_of_le_length (by simp),List.take_of_length_le (by simp),List.drop_left,Bool.not_eq_true',List.any_eq_false]
 intro t ht
 simp only [kg,Bool.and_eq_true,decide_eq_true_eq]
 rcases hX.al t ht with h|h<;>simp [h]
theorem cZ {g:Gr} (hm:aU g=true) {f:Fr} (hi:gP g f) {x:Int} (hR:aC g f x=true) (hn:bA g x≠0):
 ∃A X C,f.row=A++X++C∧fW x A∧fW x C∧Ah x X∧X.countP (kM x)=bA g x:=by
 obtain ⟨h0,h1,h2⟩:=aS hR
 rw [← nI hm hi,gr,if_neg (by rintro (h|h|h);omega;omega;exact h2 h),gu h0 h1,Bool.and_eq_true,decide_eq_true_eq] at hR
 have hN:(bg (fun e=>e.2) g.es g.es.length x).length=bA g x:=rfl
 rw [hN,decide_eq_false hn,Bool.false_or] at hR
 obtain ⟨hc,hb⟩:=hR
 have zK:(f.row.countP (kM x):Int)=bA g x:=by
  rw [← hc];unfold aT
  rw [jK,kj (Nat.le_refl _),List.take_length]
 rcases cU (row:=f.row) (x:=x) f.row.length with ⟨hs,hno⟩|⟨a,b,c,hs,hab,dK,hc0,dL,ha,hb',hlo,hhi⟩
 ·have:aT f.row x=(-1,0,0):=hs
  rw [this] at hc
  exfalso;simp only at hc;omega
 ·have hs':aT f.row x=((a:Int),(b:Int),(c:Int)):=hs
  rw [hs'] at hb
  simp only [Int.toNat_natCast] at hb
  have hA:fW x (f.row.take a):=fun t ht=>by
   obtain ⟨j,hj,rfl⟩:=List.mem_iff_getElem.1 ht
   simp only [List.length_take] at hj
   have:=hlo j (by omega)
   rw [List.getD_eq_getElem?_getD,List.getElem?_eq_getElem (show j<f.row.length by omega)] at this
   simpa using this
  have hC:fW x (f.row.drop b):=fun t ht=>by
   obtain ⟨j,hj,rfl⟩:=List.mem_iff_getElem.1 ht
   simp only [List.length_drop] at hj
   have:=hhi (b+j) (by omega) (by omega)
   rw [List.getD_eq_getElem?_getD,List.getElem?_eq_getElem (show b+j<f.row.length by omega)] at this
   simpa using this
  have hrow:f.row=f.row.take a++(f.row.take b).drop a++f.row.drop b:=by
   have e1:f.row.take a=(f.row.take b).take a:=by rw [List.take_take,Nat.min_eq_left (by omega)]
   rw [e1,List.take_append_drop,List.take_append_drop]
  refine ⟨f.row.take a,(f.row.take b).drop a,f.row.drop b,hrow,hA,hC,⟨?_, ?_, ?_⟩, ?_⟩
  ·refine ⟨f.row.getD a (0,0,0),(f.row.take b).drop (a+1), ?_,ha⟩
   rw [List.drop_eq_getElem_cons (by simp;omega)]
   congr 1
   rw [List.getD_eq_getElem?_getD,List.getElem?_eq_getElem (show a<f.row.length by omega)]
   simp
  ·refine ⟨(f.row.take (b - 1)).drop a,f.row.getD (b - 1) (0,0,0), ?_,hb'⟩
   have e:f.row.take b=f.row.take (b - 1)++ [f.row.getD (b - 1) (0,0,0)]:=by
    conv=>lhs;rw [show b=b - 1+1 by omega]
    rw [List.take_add_one,List.getD_eq_getElem?_getD,List.getElem?_eq_getElem (show b - 1<f.row.length by omega)]
    rfl
   rw [e,List.drop_append_of_le_length (by simp;omega)]
  ·intro t ht
   rw [pG,Bool.not_eq_true',List.any_eq_false] at hb
   have:=hb t ht
   simp only [kg,Bool.and_eq_true,decide_eq_true_eq,not_and] at this
   by_cases h:t.2.2=x
   ·exact .inl h
   ·exact .inr (Decidable.byContradiction fun h'=>this h h')
  ·have h1:(f.row.take a).countP (kM x)=0:=List.countP_eq_zero.2 fun t ht=>by simp [kM,hA t ht]
   have h2:(f.row.drop b).countP (kM x)=0:=List.countP_eq_zero.2 fun t ht=>by simp [kM,hC t ht]
   rw [hrow,List.countP_append,List.countP_append,h1,h2] at zK
   omega
theorem ko {g:Gr} {f:Fr} {A X C:List It} {x:Int} (o:List Int) (hr:f.row=A++X++C) (hA:fW x A) (hC:fW x C) (hX:Ah x X):
 aA g f x o=((X,0),⟨A++aJ g x o++C,f.pl++ [x]⟩):=by
 obtain ⟨e1,e2,e3⟩:=yR hA hC hX
 have e4:max (A.length:Int) 0=(A.length:Int):=by omega
 unfold aA
 rw [hr,e1,e2,e4,Int.toNat_natCast,Int.toNat_natCast]
 rw [List.take_append_of_le_length (show A.length+X.length≤(A++X).length by simp),List.take_of_length_le (show (A++X).length≤A.length+X.length by simp),List.drop_left]
 rw [show (A++X++C).take A.length=A by rw [List.append_assoc,List.take_left]]
 rw [show (A++X++C).drop (A.length+X.length)=C by rw [← List.length_append,List.drop_left]]
theorem lM {g:Gr} {f:Fr} {x:Int} (o:List Int) (hr:fW x f.row):aA g f x o=(([],0),⟨aJ g x o++f.row,f.pl++ [x]⟩):=by
 have hs:aT f.row x=(-1,0,0):=by
  rcases cU (row:=f.row) (x:=x) f.row.length with ⟨hs,_⟩|⟨a,b,c,hs,hab,dK,hc0,dL,ha,hb',hlo,hhi⟩
  ·exact hs
  ·exact absurd ha (hr _ (aK (by omega)))
 have e4:max (-1:Int) 0=0:=by omega
 unfold aA
 rw [hs]
 simp [e4]
end Go.Ab
end
section
namespace Go.Ab
open Go.Proofs
set_option maxRecDepth 10000
structure wN (g:Gr) (f:Fr):Prop extends gP g f where
 tail:∀t∈f.row,0≤t.1→t.2.1∈f.pl
 head:∀t∈f.row,0≤t.1→t.2.2∉f.pl
 once:f.row.Pairwise fun s t=>0≤s.1→s.1≠t.1
 low:∀i,i<g.es.length→hd g i∈f.pl→tl g i∈f.pl
 src:(f.pl= []∧f.row= [])∨∃s∈f.pl,bA g s=0
theorem yS (g:Gr):wN g ⟨[], []⟩:=
 {it:=by simp,pl:=by simp,FM:=by simp,tail:=by simp,head:=by simp,once:=by simp,low:=by simp,src:= .inl ⟨rfl,rfl⟩}
theorem uT {g:Gr} (hm:aU g=true) {f:Fr} (hi:wN g f) {x:Int} (hR:aC g f x=true) {i:Nat} (hl:i<g.es.length) (hx:hd g i=x):∃t∈f.row,t.1=i∧t.2.1=tl g i∧t.2.2=x:=by
 have hn:bA g x≠0:=by
  have:=oL (g:=g) (e:=(i:Int)) (by omega) (by omega)
  rw [Int.toNat_natCast,show (g.es.getD i (0,0)).2=x from hx] at this
  omega
 obtain ⟨A,X,C,hr,hA,hC,hX,hc⟩:=cZ hm hi.togP hR hn
 have hN:(bg (fun e=>e.2) g.es g.es.length x).length=bA g x:=rfl
 have hok:∀t∈f.row,t.2.2=x→0≤t.1∧t.1<g.es.length∧t.2.1=(g.es.getD t.1.toNat (0,0)).1∧t.2.2=(g.es.getD t.1.toNat (0,0)).2:=fun t ht he=>by
  rcases hi.it t ht with ⟨_,h2⟩|h
  ·have:=(aS hR).1;omega
  ·exact h
 have hmem:∀t∈X,t∈f.row:=fun t ht=>by rw [hr];simp [ht]
 have MW:=qb (ms:=(X.filter (kM x)).map (·.1)) (os:=bg (fun e=>e.2) g.es g.es.length x)
 have key:∀i∈bg (fun e=>e.2) g.es g.es.length x,i∈(X.filter (kM x)).map (·.1):=by
  refine uS (ms:=(X.filter (kM x)).map (·.1)) (os:=bg (fun e=>e.2) g.es g.es.length x) ?_ ?_ ?_
  ·have h1:X.Pairwise fun s t=>0≤s.1→s.1≠t.1:=by
    have:=hi.once
    rw [hr,List.pairwise_append,List.pairwise_append] at this
    exact this.1.2.1
   have h2:=h1.filter (kM x)
   rw [List.Nodup,List.pairwise_map]
   refine h2.imp_of_mem fun {a b} ha hb h=>h ?_
   obtain ⟨qc,Og⟩:=List.mem_filter.1 ha
   exact (hok a (hmem a qc) (by simpa [kM] using Og)).1
  ·intro e he
   obtain ⟨t,ht,rfl⟩:=List.mem_map.1 he
   obtain ⟨ht1,ht2⟩:=List.mem_filter.1 ht
   have ht2:t.2.2=x:=by simpa [kM] using ht2
   obtain ⟨h1,h2,h3,h4⟩:=hok t (hmem t ht1) ht2
   simp only [bg,List.mem_map,List.mem_filter,List.mem_range,decide_eq_true_eq]
   exact ⟨t.1.toNat,⟨by omega,by rw [← h4];exact ht2⟩,by simp;omega⟩
  ·rw [hN, ← hc,List.length_map,List.countP_eq_length_filter]
 have hie:(i:Int)∈bg (fun e=>e.2) g.es g.es.length x:=by
  simp only [bg,List.mem_map,List.mem_filter,List.mem_range,decide_eq_true_eq]
  exact ⟨i,⟨hl,hx⟩,rfl⟩
 obtain ⟨t,ht,he⟩:=List.mem_map.1 (key _ hie)
 obtain ⟨ht1,ht2⟩:=List.mem_filter.1 ht
 have ht2:t.2.2=x:=by simpa [kM] using ht2
 obtain ⟨h1,h2,h3,h4⟩:=hok t (hmem t ht1) ht2
 refine ⟨t,hmem t ht1,he, ?_,ht2⟩
 rw [h3,he,Int.toNat_natCast];rfl
theorem rR {g:Gr} (hm:aU g=true) {f:Fr} (hi:gP g f) {x:Int} (h0:0≤x) (hn:bA g x=0):fW x f.row:=by
 intro t ht he
 rcases hi.it t ht with ⟨_,h2⟩|⟨h1,h2,_,h4⟩
 ·omega
 ·have:=oL h1 h2
  rw [← h4,he] at this
  omega
theorem iH {g:Gr} (hm:aU g=true) {f:Fr} (hi:gP g f) {x:Int} (hR:aC g f x=true):
 ∃A X C,f.row=A++X++C∧fW x A∧fW x C∧(∀t∈X,t.2.2=x∨t.2.2= -1)∧∀o,aA g f x o=((X,0),⟨A++aJ g x o++C,f.pl++ [x]⟩):=by
 by_cases hn:bA g x=0
 ·have h:=rR hm hi (aS hR).1 hn
  exact ⟨[], [],f.row,by simp,fun t ht=>(by cases ht),h,fun t ht=>(by cases ht),fun o=>by rw [lM o h];simp⟩
 ·obtain ⟨A,X,C,hr,hA,hC,hX,_⟩:=cZ hm hi hR hn
  exact ⟨A,X,C,hr,hA,hC,hX.al,fun o=>ko o hr hA hC hX⟩
theorem jM {g:Gr} {x i:Int} (h:i∈bu g x):∃k:Nat,i=k∧k<g.es.length∧tl g k=x:=by
 obtain ⟨⟨h1,h2⟩,h3⟩:=ig h
 exact ⟨i.toNat,by omega,by omega,h3⟩
theorem jN {g:Gr} {x:Int} {o:List Int} (ho:∀i∈o,i∈bu g x) {t:It} (h:t∈aJ g x o):(t.1= -1∧t.2.2= -1)∨∃k:Nat,k<g.es.length∧t.1=k∧t.2.1=x∧t.2.2=hd g k∧tl g k=x∧t.1∈o:=by
 unfold aJ at h
 split at h
 ·rw [List.mem_singleton] at h
  rw [h];exact .inl ⟨rfl,rfl⟩
 ·obtain ⟨i,MX,rfl⟩:=List.mem_map.1 h
  obtain ⟨k,rfl,h1,h2⟩:=jM (ho i MX)
  exact .inr ⟨k,h1,rfl,rfl,by simp [fQ];rfl,h2,MX⟩
theorem oM {g:Gr} (hm:aU g=true) {f:Fr} (hi:wN g f) {x y:Int} (hx:x∉f.pl) (hR:aC g f y=true) {o:List Int} (ho:∀i∈o,i∈bu g x):fW y (aJ g x o):=by
 intro t ht he
 rcases jN ho ht with ⟨_,h⟩|⟨k,h1,h2,h3,h4,h5,_⟩
 ·have:=(aS hR).1;omega
 ·obtain ⟨s,hs,e1,e2,e3⟩:=uT hm hi hR h1 (by rw [← h4];exact he)
  refine hx ?_
  rw [← h5, ← e2]
  exact hi.tail s hs (by omega)
theorem jO {g:Gr} (hm:aU g=true) {f:Fr} (hi:wN g f) {x:Int} (hR:aC g f x=true) {o:List Int} (ho:o.Perm (bu g x)):wN g (aA g f x o).2:=by
 have Ea:∀i∈o,i∈bu g x:=fun i h=>ho.mem_iff.1 h
 have hx:=(aS hR).2.2
 have h0:=Cp hi.togP hR Ea
 obtain ⟨A,X,C,hr,hA,hC,hX,hs⟩:=iH hm hi.togP hR
 have fU:(aA g f x o).2.pl=f.pl++ [x]:=rfl
 have hrow:(aA g f x o).2.row=A++aJ g x o++C:=by rw [hs o]
 have LR:∀t∈A,t∈f.row:=fun t ht=>by rw [hr];simp [ht]
 have LS:∀t∈C,t∈f.row:=fun t ht=>by rw [hr];simp [ht]
 have Je:=oM hm hi hx hR Ea
 refine {togP:=h0,tail:= ?_,head:= ?_,once:= ?_,low:= ?_,src:= .inr ?_}
 ·intro t ht h1
  rw [fU]
  rw [hrow,List.mem_append,List.mem_append] at ht
  rcases ht with (ht|ht)|ht
  ·exact List.mem_append_left _ (hi.tail t (LR t ht) h1)
  ·rcases jN Ea ht with ⟨h,_⟩|⟨k,_,_,h3,_⟩
   ·omega
   ·rw [h3];simp
  ·exact List.mem_append_left _ (hi.tail t (LS t ht) h1)
 ·intro t ht h1
  rw [fU,List.mem_append,List.mem_singleton]
  rw [hrow,List.mem_append,List.mem_append] at ht
  rcases ht with (ht|ht)|ht
  ·rintro (h|h)
   ·exact hi.head t (LR t ht) h1 h
   ·exact hA t ht h
  ·rintro (h|h)
   ·rcases jN Ea ht with ⟨h',_⟩|⟨k,hk,_,_,h4,h5,_⟩
    ·omega
    ·rw [h4] at h
     have:=hi.low k hk h
     rw [h5] at this;exact hx this
   ·exact Je t ht h
  ·rintro (h|h)
   ·exact hi.head t (LS t ht) h1 h
   ·exact hC t ht h
 ·have vt:=hi.once
  rw [hr,List.pairwise_append,List.pairwise_append] at vt
  obtain ⟨⟨Oh,_,_⟩,Oi,LU⟩:=vt
  have old:∀s∈f.row,0≤s.1→∀t∈aJ g x o,s.1≠t.1:=fun s hs h1 t ht e=>by
   rcases jN Ea ht with ⟨h,_⟩|⟨k,hk,h2,h3,h4,h5,_⟩
   ·omega
   ·rcases hi.it s hs with ⟨h,_⟩|⟨_,_,h6,_⟩
    ·omega
    ·have:=hi.tail s hs h1
     rw [h6,e,h2,Int.toNat_natCast] at this
     exact hx (h5 ▸ this)
  rw [hrow,List.pairwise_append,List.pairwise_append]
  refine ⟨⟨Oh, ?_,fun s hs t ht h1=>old s (LR s hs) h1 t ht⟩,Oi, ?_⟩
  ·unfold aJ
   split
   ·simp
   ·refine List.pairwise_map.2 ((ho.nodup_iff.2 cW).imp fun {i j} (h:i≠j) _=> ?_)
    exact h
  ·intro s hs t ht h1
   rcases List.mem_append.1 hs with hs|hs
   ·exact LU s (List.mem_append_left _ hs) t ht h1
   ·intro e
    exact old t (LS t ht) (by omega) s hs e.symm
 ·intro i hl h
  rw [fU,List.mem_append,List.mem_singleton] at h ⊢
  left
  rcases h with h|h
  ·exact hi.low i hl h
  ·obtain ⟨t,ht,e1,e2,_⟩:=uT hm hi hR hl h
   rw [← e2]
   exact hi.tail t ht (by omega)
 ·rcases hi.src with ⟨h1,h2⟩|⟨s,hs,h⟩
  ·refine ⟨x,by rw [fU];simp, ?_⟩
   refine Decidable.byContradiction fun hn=> ?_
   obtain ⟨A,X,C,hr,_,_,hX,_⟩:=cZ hm hi.togP hR hn
   obtain ⟨p,X',e,_⟩:=hX.fst
   rw [h2,e] at hr
   simp at hr
  ·exact ⟨s,by rw [fU];simp [hs],h⟩
theorem apart {x y:Int} (hx:0≤x) (hy:0≤y) (hxy:x≠y) {A X C B Y D:List It} (h:A++X++C=B++Y++D) (hX:Ah x X) (hY:Ah y Y):
 (∃M,B=A++X++M∧C=M++Y++D)∨(∃M,A=B++Y++M∧D=M++X++C):=by
 obtain ⟨p,X',Oj,hp⟩:=hX.fst
 obtain ⟨q,Y',Ol,hq⟩:=hY.fst
 have nX:q∉X:=fun h=>hX.MV hxy hy q h hq
 have nY:p∉Y:=fun h=>hY.MV (Ne.symm hxy) hx p h hp
 rw [show B++Y++D=B++(Y++D) by simp,List.append_eq_append_iff] at h
 rcases h with ⟨es,h1,h2⟩|⟨cs,h1,h2⟩
 ·exact .inl ⟨es,h1,by rw [h2];simp⟩
 ·match cs,h1,h2 with
  | [],h1,h2=>exact .inl ⟨[],by simpa using h1.symm,by simpa using h2.symm⟩
  |c::cs,h1,h2=>
   have Om:c=q:=by rw [Ol] at h2;simp at h2;exact h2.1.symm
   rw [List.append_eq_append_iff] at h1
   rcases h1 with ⟨es,h3,h4⟩|⟨ds,h3,h4⟩
   ·exfalso;refine nX ?_
    rw [h4, ← Om];simp
   ·rw [h4,List.append_assoc,List.append_eq_append_iff] at h2
    rcases h2 with ⟨es,h5,h6⟩|⟨bs,h5,h6⟩
    ·exact .inr ⟨es,by rw [h3,h5];simp,by rw [h6];simp⟩
    ·match bs,h5,h6 with
     | [],h5,h6=>exact .inr ⟨[],by rw [h3,h5];simp,by simpa using h6.symm⟩
     |b::bs,h5,h6=>
      exfalso;refine nY ?_
      have On:b=p:=by rw [Oj] at h6;simp at h6;exact h6.1.symm
      rw [h5, ← On];simp
theorem wO {g:Gr} (hm:aU g=true) {f:Fr} (hi:wN g f) {x y:Int} (hxy:x≠y) (yT:aC g f x=true) (tj:aC g f y=true)
 {a b:List Int} (ha:a.Perm (bu g x)) (hb:b.Perm (bu g y)) {A X M Y D:List It} (hr:f.row=A++X++M++Y++D) (hX:Ah x X) (hY:Ah y Y)
 (cX:X.countP (kM x)=bA g x) (cY:Y.countP (kM y)=bA g y)
 (nA:fW x A) (nC:fW x (M++Y++D)) (nB:fW y (A++X++M)) (nD:fW y D):
 aC g (aA g f x a).2 y=true∧aC g (aA g f y b).2 x=true∧(aA g (aA g f x a).2 y b).2.row=(aA g (aA g f y b).2 x a).2.row∧
 (aA g f x a).1=(aA g (aA g f y b).2 x a).1∧(aA g f y b).1=(aA g (aA g f x a).2 y b).1:=by
 obtain ⟨x0,x1,x2⟩:=aS yT
 obtain ⟨y0,y1,y2⟩:=aS tj
 have i1:=(jO hm hi yT ha).togP
 have i2:=(jO hm hi tj hb).togP
 have ux:=oM hm hi x2 tj (fun i h=>ha.mem_iff.1 h)
 have uy:=oM hm hi y2 yT (fun i h=>hb.mem_iff.1 h)
 have r1:f.row=A++X++(M++Y++D):=by rw [hr];simp
 have r2:f.row=(A++X++M)++Y++D:=by rw [hr]
 have e1:=ko (g:=g) a r1 nA nC hX
 have e2:=ko (g:=g) b r2 nB nD hY
 rw [e1] at i1 ⊢;rw [e2] at i2 ⊢
 have r3:A++aJ g x a++(M++Y++D)=(A++aJ g x a++M)++Y++D:=by simp
 have r4:A++X++M++aJ g y b++D=A++X++(M++aJ g y b++D):=by simp
 have n3:fW y (A++aJ g x a++M):=((nB.left.left).app ux).app nB.right
 have n4:fW x (M++aJ g y b++D):=(nC.left.left.app uy).app nC.right
 have e3:=ko (g:=g) (f:=⟨A++aJ g x a++(M++Y++D),f.pl++ [x]⟩) b r3 n3 nD hY
 have e4:=ko (g:=g) (f:=⟨A++X++M++aJ g y b++D,f.pl++ [y]⟩) a r4 nA n4 hX
 refine ⟨rQ hm i1 y0 y1 ?_ r3 n3 nD hY cY,rQ hm i2 x0 x1 ?_ r4 nA n4 hX cX, ?_, ?_, ?_⟩
 ·simp [y2,Ne.symm hxy]
 ·simp [x2,hxy]
 ·simp only [e3,e4];simp
 ·simp only [e4]
 ·simp only [e3]
theorem Am {g:Gr} (hm:aU g=true) {f:Fr} (hi:wN g f) {x y:Int} (hxy:x≠y) (yT:aC g f x=true) (tj:aC g f y=true)
 {a b:List Int} (ha:a.Perm (bu g x)) (hb:b.Perm (bu g y)) (nx:bA g x≠0) (ny:bA g y≠0):
 aC g (aA g f x a).2 y=true∧aC g (aA g f y b).2 x=true∧(aA g (aA g f x a).2 y b).2.row=(aA g (aA g f y b).2 x a).2.row∧
 (aA g f x a).1=(aA g (aA g f y b).2 x a).1∧(aA g f y b).1=(aA g (aA g f x a).2 y b).1:=by
 obtain ⟨A,X,C,hr,hA,hC,hX,cX⟩:=cZ hm hi.togP yT nx
 obtain ⟨B,Y,D,hr',hB,hD,hY,cY⟩:=cZ hm hi.togP tj ny
 rcases apart (aS yT).1 (aS tj).1 hxy (hr.symm.trans hr') hX hY with ⟨M,rfl,rfl⟩|⟨M,rfl,rfl⟩
 ·exact wO hm hi hxy yT tj ha hb (by rw [hr];simp) hX hY cX cY hA hC hB hD
 ·obtain ⟨h1,h2,h3,h4,h5⟩:=wO hm hi (Ne.symm hxy) tj yT hb ha (by rw [hr'];simp) hY hX cY cX hB hD hA hC
  exact ⟨h2,h1,h3.symm,h5,h4⟩
theorem lN {g:Gr} {y:Int} :y∈bJ (·.2) g↔(0≤y∧y<g.n)∧bA g y=0:=by
 simp only [bJ,iz,List.mem_map,List.mem_filter,List.mem_range,decide_eq_true_eq]
 have he:∀x:Nat,x<g.n.toNat→(((c8 (·.2) g).getD x []).length=bA g (x:Int)):=by
  intro x hx
  have e:(c8 (·.2) g).getD x []=bg (·.2) g.es g.es.length (x:Int):=by
   simp [c8,List.getD_eq_getElem?_getD,List.getElem?_range hx,k4]
  rw [e];rfl
 constructor
 ·rintro ⟨x,⟨hx,h0⟩,rfl⟩
  refine ⟨by simp;omega,by rw [he x hx] at h0;exact h0⟩
 ·rintro ⟨⟨h1,h2⟩,h3⟩
  have e:((y.toNat:Nat):Int)=y:=by omega
  exact ⟨y.toNat,⟨by omega,by rw [he _ (by omega),e];exact h3⟩,e⟩
theorem nJ {g:Gr} (hc:(cr g).1=0) {x y:Int} (hx:0≤x∧x<g.n) (hy:0≤y∧y<g.n) (nx:bA g x=0) (ny:bA g y=0):x=y:=by
 have h1:(bJ (·.2) g).length≤1:=by
  unfold cr gO at hc
  refine Nat.not_lt.1 fun h=> ?_
  split at hc
  ·cases hc
  split at hc
  ·cases hc
  split at hc
  ·cases hc
  split at hc
  ·cases hc
  cases hc
 have h2:=lN.2 ⟨hx,nx⟩
 have h3:=lN.2 ⟨hy,ny⟩
 match hb:bJ (·.2) g with
 | []=>rw [hb] at h2;cases h2
 | [z]=>rw [hb,List.mem_singleton] at h2 h3;rw [h2,h3]
 |_::_::_=>rw [hb] at h1;simp at h1
theorem aE {g:Gr} (hc:(cr g).1=0):aU g=true:=by
 unfold cr gO at hc
 split at hc
 ·cases hc
 ·rename_i h;simpa using h
theorem wP {g:Gr} (hc:(cr g).1=0) {f:Fr} (hi:wN g f) {x y:Int} (hxy:x≠y) (yT:aC g f x=true) (tj:aC g f y=true):bA g x≠0:=by
 intro nx
 have hm:=aE hc
 obtain ⟨x0,x1,x2⟩:=aS yT
 obtain ⟨y0,y1,y2⟩:=aS tj
 rcases hi.src with ⟨h1,h2⟩|⟨s,hs,h⟩
 ·have ny:bA g y≠0:=fun ny=>hxy (nJ hc ⟨x0,x1⟩ ⟨y0,y1⟩ nx ny)
  obtain ⟨A,X,C,hr,_,_,hX,_⟩:=cZ hm hi.togP tj ny
  obtain ⟨p,X',e,_⟩:=hX.fst
  rw [h2,e] at hr
  simp at hr
 ·exact x2 (nJ hc (hi.FM s hs) ⟨x0,x1⟩ h nx ▸ hs)
theorem An {g:Gr} (hc:(cr g).1=0) {f:Fr} (hi:wN g f) {x y:Int} (hxy:x≠y) (yT:aC g f x=true) (tj:aC g f y=true)
 {a b:List Int} (ha:a.Perm (bu g x)) (hb:b.Perm (bu g y)):
 aC g (aA g f x a).2 y=true∧aC g (aA g f y b).2 x=true∧(aA g (aA g f x a).2 y b).2.row=(aA g (aA g f y b).2 x a).2.row∧
 (aA g f x a).1=(aA g (aA g f y b).2 x a).1∧(aA g f y b).1=(aA g (aA g f x a).2 y b).1:=
 Am (aE hc) hi hxy yT tj ha hb (wP hc hi hxy yT tj) (wP hc hi (Ne.symm hxy) tj yT)
end Go.Ab
end
section
namespace Go.Ab
open Go.Proofs
attribute [local congr] ACall.congr
set_option maxRecDepth 10000
set_option maxHeartbeats 4000000
def yU (row:List It) (a b:Int):Nat→Int × Int
 |0=>(-1,0)
 |k+1=>if ((row.getD k (0,0,0)).2.2=a∨(row.getD k (0,0,0)).2.2=b)∧(row.getD k (0,0,0)).2.2≠(yU row a b k).1 then ((row.getD k (0,0,0)).2.2,(yU row a b k).2+1) else yU row a b k
end Go.Ab
end
section
namespace Go.Ab
open Go.Proofs
attribute [local congr] ACall.congr
set_option maxRecDepth 10000
set_option maxHeartbeats 4000000
def Gj (row:List It) (i:Nat):Int:=(row.getD i (0,0,0)).2.2
def LV (row:List It) (i j:Nat):Bool:=decide (Gj row i≠ -1)&&decide (Gj row j≠ -1)&&decide (Gj row i≠Gj row j)&&decide (4≤(yU row (Gj row i) (Gj row j) row.length).2)
def MY (row:List It):Bool:=(List.range row.length).any fun i=>(List.range row.length).any (LV row i)
end Go.Ab
end
section
namespace Go.Ab
open Go.Proofs
attribute [local congr] ACall.congr
set_option maxRecDepth 10000
set_option maxHeartbeats 8000000
def T4 (row:List It) (a b c d:Nat):Prop:=0≤(row.getD a (0,0,0)).2.2∧0≤(row.getD b (0,0,0)).2.2∧(row.getD a (0,0,0)).2.2≠(row.getD b (0,0,0)).2.2∧(row.getD a (0,0,0)).2.2=(row.getD c (0,0,0)).2.2∧(row.getD b (0,0,0)).2.2=(row.getD d (0,0,0)).2.2
def Oo (row:List It):Prop:=∃a b c d,a<b∧b<c∧c<d∧d<row.length∧T4 row a b c d
end Go.Ab
end
section
namespace Go.Ab
open Go.Proofs
set_option maxRecDepth 10000
theorem wQ {g:Gr} {f f':Fr} (hr:f.row=f'.row) (hp:f.pl.Perm f'.pl) (x:Int):aC g f x=aC g f' x:=by
 unfold aC
 rw [hr]
 by_cases h:x<0∨g.n≤x∨x∈f.pl
 ·rw [if_pos h,if_pos (by rw [← hp.mem_iff];exact h)]
 ·have h':¬(x<0∨g.n≤x∨x∈f'.pl):=by rw [← hp.mem_iff];exact h
  rw [if_neg h,if_neg h']
theorem mJ:∀ {l m:List Int},l.Nodup→(∀i∈l,i∈m)→l.length≤m.length
 | [],_,_,_=>by simp
 |a::l,m,hn,hs=>by
  rw [List.nodup_cons] at hn
  have ha:=hs a (List.mem_cons_self ..)
  have:=mJ hn.2 (m:=m.erase a) fun i hi=>(List.mem_erase_of_ne (fun e:i=a=>hn.1 (e ▸ hi))).2 (hs i (List.mem_cons_of_mem _ hi))
  rw [List.length_erase_of_mem ha] at this
  have:=List.length_pos_of_mem ha
  rw [List.length_cons];omega
theorem jP {g:Gr} {f:Fr} (hi:gP g f) (hf:(f.pl.length:Int)=g.n) {x:Int} (hx:0≤x∧x<g.n):x∈f.pl:=by
 refine Decidable.byContradiction fun h=> ?_
 have h1:(x::f.pl).Nodup:=List.nodup_cons.2 ⟨h,hi.pl⟩
 have h2:((List.range g.n.toNat).map Int.ofNat).length=g.n.toNat:=by simp
 have h3:=mJ h1 (m:=(List.range g.n.toNat).map Int.ofNat) (fun y hy=>by
  rw [List.mem_map]
  have:0≤y∧y<g.n:=by
   rcases List.mem_cons.1 hy with h|h
   ·rw [h];exact hx
   ·exact hi.FM y h
  exact ⟨y.toNat,List.mem_range.2 (by omega),by simp;omega⟩)
 rw [h2,List.length_cons] at h3
 omega
def Tg (a b:Int) (row:List It):Prop:=∃l:List It,l.Sublist row∧l.map (fun t=>t.2.2)= [a,b,a,b]
def Cq (a b:Int) (t:It):Bool:=decide (t.2.2=a)||decide (t.2.2=b)
theorem Tg.LW {a b:Int} {row:List It} :Tg a b row↔Tg a b (row.filter (Cq a b)):=by
 constructor
 ·rintro ⟨l,h,e⟩
  refine ⟨l, ?_,e⟩
  have h1:=h.filter (Cq a b)
  rw [List.filter_eq_self.2] at h1
  ·exact h1
  ·intro t ht
   have:t.2.2∈l.map (fun t=>t.2.2):=List.mem_map.2 ⟨t,ht,rfl⟩
   rw [e] at this
   simp only [Cq,Bool.or_eq_true,decide_eq_true_eq]
   simp only [List.mem_cons,List.not_mem_nil,or_false] at this
   omega
 ·rintro ⟨l,h,e⟩
  exact ⟨l,h.trans List.filter_sublist,e⟩
theorem Tg.keep {a b x:Int} (ha:0≤a) (hb:0≤b) (EE:a≠x) (vZ:b≠x) {A X C u:List It} (hX:∀t∈X,t.2.2=x∨t.2.2= -1) (h:Tg a b (A++X++C)):Tg a b (A++u++C):=by
 rw [Tg.LW] at h ⊢
 obtain ⟨l,h,e⟩:=h
 refine ⟨l,h.trans ?_,e⟩
 rw [List.filter_append,List.filter_append,List.filter_append,List.filter_append]
 have:X.filter (Cq a b)= []:=List.filter_eq_nil_iff.2 fun t ht=>by
  simp only [Cq,Bool.or_eq_true,decide_eq_true_eq]
  rcases hX t ht with h|h<;>omega
 rw [this,List.append_nil]
 exact List.Sublist.append_right (List.sublist_append_left _ _) _
theorem Tg.not {a b x:Int} (hab:a≠b) (hb0:0≤b) (ha0:0≤a) (hx:x=a∨x=b) {A X C:List It} (hA:fW x A) (hC:fW x C) (hX:∀t∈X,t.2.2=x∨t.2.2= -1):¬Tg a b (A++X++C):=by
 rintro ⟨l,h,e⟩
 rw [List.append_assoc,List.sublist_append_iff] at h
 obtain ⟨l1,l',rfl,h1,h'⟩:=h
 rw [List.sublist_append_iff] at h'
 obtain ⟨l2,l3,rfl,h2,h3⟩:=h'
 have k1:∀t∈l1,t.2.2≠x:=fun t ht=>hA t (h1.subset ht)
 have k2:∀t∈l2,t.2.2=x∨t.2.2= -1:=fun t ht=>hX t (h2.subset ht)
 have k3:∀t∈l3,t.2.2≠x:=fun t ht=>hC t (h3.subset ht)
 clear h1 h2 h3
 match l1,k1,e with
 |t1::t2::_,k1,e=>
  simp only [List.cons_append,List.map_cons,List.cons.injEq] at e
  rcases hx with h|h
  ·exact k1 t1 (by simp) (by omega)
  ·exact k1 t2 (by simp) (by omega)
 | [t1],k1,e=>
   simp only [List.cons_append,List.nil_append,List.map_cons,List.cons.injEq] at e
   rcases hx with h|h
   ·exact k1 t1 (by simp) (by omega)
   ·match l2,k2,e with
    | [],_,e=>
      match l3,k3,e with
      | [s1,s2,s3],k3,e=>
        simp only [List.nil_append,List.map_cons,List.map_nil,List.cons.injEq,and_true] at e
        exact k3 s1 (by simp) (by omega)
      | [],_,e=>simp at e
      | [_],_,e=>simp at e
      | [_,_],_,e=>simp at e
      |_::_::_::_::_,_,e=>simp at e
    |s1::s2::_,k2,e=>
     simp only [List.cons_append,List.map_cons,List.cons.injEq] at e
     rcases k2 s2 (by simp) with h|h<;>omega
    | [s1],k2,e=>
      match l3,k3,e with
      | [u1,u2],k3,e=>
        simp only [List.cons_append,List.nil_append,List.map_cons,List.map_nil,List.cons.injEq,and_true] at e
        exact k3 u2 (by simp) (by omega)
      | [],_,e=>simp at e
      | [_],_,e=>simp at e
      |_::_::_::_,_,e=>simp at e
 | [],_,e=>
   simp only [List.nil_append] at e
   match l2,k2,e with
   | [],_,e=>
     match l3,k3,e with
     | [],_,e=>simp at e
     | [_],_,e=>simp at e
     |s1::s2::_,k3,e=>
      simp only [List.nil_append,List.map_cons,List.cons.injEq] at e
      rcases hx with h|h
      ·exact k3 s1 (by simp) (by omega)
      ·exact k3 s2 (by simp) (by omega)
   |s1::s2::_,k2,e=>
    simp only [List.cons_append,List.map_cons,List.cons.injEq] at e
    have q1:=k2 s1 (by simp)
    have q2:=k2 s2 (by simp)
    omega
   | [s1],k2,e=>
     match l3,k3,e with
     | [],_,e=>simp at e
     | [_],_,e=>simp at e
     | [_,_],_,e=>simp at e
     |u1::u2::u3::_,k3,e=>
      simp only [List.cons_append,List.nil_append,List.map_cons,List.cons.injEq] at e
      have q1:=k2 s1 (by simp)
      exact k3 u2 (by simp) (by omega)
end Go.Ab
end
section
namespace Go.Ab
open Go.Proofs
set_option maxRecDepth 10000
theorem Ao {row:List It} {k:Nat} (h:k<row.length):row.take (k+1)=row.take k++ [row.getD k (0,0,0)]:=by
 rw [List.take_add_one,List.getD_eq_getElem?_getD,List.getElem?_eq_getElem h];rfl
theorem Cr {row:List It} {i j:Nat} (h:i≤j):(row.take i).Sublist (row.take j):=by
 rw [show row.take i=(row.take j).take i by rw [List.take_take,Nat.min_eq_left h]]
 exact List.take_sublist _ _
theorem rS {row l:List It} {i j:Nat} (h:l.Sublist (row.take i)) (hij:i≤j) (hj:j<row.length):(l++ [row.getD j (0,0,0)]).Sublist (row.take (j+1)):=by
 rw [Ao hj]
 exact List.Sublist.append (h.trans (Cr hij)) (List.Sublist.refl _)
def LX (a b:Int):List It→Prop
 | []=>True
 | [t]=>t.2.2=a∨t.2.2=b
 |s::t::l=>(s.2.2=a∨s.2.2=b)∧s.2.2≠t.2.2∧LX a b (t::l)
end Go.Ab
end
section
namespace Go.Ab
open Go.Proofs
attribute [local congr] ACall.congr
set_option maxRecDepth 10000
theorem Ap (g g':Gr) (hlen:g.es.length≤9223372036854775807):Spec Tryz.prog 22 (Args [eG g,eG g']) [] (eB (decide (g.n=g'.n)&&decide (g.es=g'.es))) []:=by
 (refine Spec.intro (C:=T.cfg [] []) (rs:= [.t 4]) (T.aq _ _) Tryz.func22 rfl rfl Tryz.ntmps22 Tryz.results22 (by simp [AObj.isNest]) (by simp [AObj.isNest]) (by kernel_rfl) ?_;intro X hX hP hC aN aO vals hA;refine ⟨_,by simp,hA, ?_⟩;have af:X.P.follows .mixedOrders=true:=(by rw [hP];exact T.mixed);clear aN aO)
 repeat' (first|fail|((first|((with_reducible (first|apply oA|apply oB));exact rfl;intro K hK)|(refine hK _ ?_;clear hK K)|((with_reducible (first|apply oG|apply oH));iterate 3 exact rfl)|((with_reducible apply oI);(iterate 2 exact rfl);intro K hK)|(with_reducible (first|apply wI|apply wJ|apply wK)));try simp only [go_sem,simprocAttr,eR])|fail|(with_reducible (first|apply oC|apply oJ|exact oK|apply wA|apply wB|apply wC hX hC|apply wD hX hC|apply wE hX hC af|apply wF hX hC af|apply wG|apply wH|apply And.intro))|((with_reducible refine oD ?_ ?_);first|fail|kernel_rfl)|((with_reducible (first|apply oE|apply oF));(iterate 3 exact rfl);all_goals (intro h;first|(exact absurd h (by decide))|((try simp only [go_sem,simprocAttr,eR] at h);(try with_reducible intro K hK);simp only [go_sem,simprocAttr,eR])))|((first|((with_reducible apply wL);exact rfl)|((with_reducible apply wM);exact rfl));all_goals (try ((with_reducible intro h);first|(exact absurd h (by decide))|(try simp only [go_sem,simprocAttr,eR] at h))))|omega|((first|fail);try simp only [go_sem,simprocAttr,eR])|(intro h))
 ·have:g.es≠g'.es:=fun e=>h (by rw [e])
  simp [this]
 rotate_left
 ·simp [*]
 refine ak (fun k:Nat=>k≤g.es.length∧g.es.take k=g'.es.take k) (fun k=>⟨[(2, .ptr 2 0),(3, .ptr 3 0),(5,eN k)], [(2, .box [eN g.n, .d (sE g.es)]),(3, .box [eN g'.n, .d (sE g'.es)])]⟩) (fun k=>g.es.length - k) 0 (by simp) ?_ ?_
 ·(refine Le.of ?_ ?_<;>simp [go_sem,simprocAttr,eR])
 rintro k ⟨hk,hp⟩
 have yz:g.es.length=g'.es.length:=by omega
 repeat' (first|fail|((first|((with_reducible (first|apply oA|apply oB));exact rfl;intro K hK)|(refine hK _ ?_;clear hK K)|((with_reducible (first|apply oG|apply oH));iterate 3 exact rfl)|((with_reducible apply oI);(iterate 2 exact rfl);intro K hK)|(with_reducible (first|apply wI|apply wJ|apply wK)));try simp only [go_sem,simprocAttr,eR])|fail|(with_reducible (first|apply oC|apply oJ|exact oK|apply wA|apply wB|apply wC hX hC|apply wD hX hC|apply wE hX hC af|apply wF hX hC af|apply wG|apply wH|apply And.intro))|((with_reducible refine oD ?_ ?_);first|fail|kernel_rfl)|((with_reducible (first|apply oE|apply oF));(iterate 3 exact rfl);all_goals (intro h;first|(exact absurd h (by decide))|((try simp only [go_sem,simprocAttr,eR] at h);(try with_reducible intro K hK);simp only [go_sem,simprocAttr,eR])))|((first|((with_reducible apply wL);exact rfl)|((with_reducible apply wM);exact rfl));all_goals (try ((with_reducible intro h);first|(exact absurd h (by decide))|(try simp only [go_sem,simprocAttr,eR] at h))))|omega|((first|fail);try simp only [go_sem,simprocAttr,eR])|(intro h))
 ·have:g.es≠g'.es:=fun e=>h (by rw [e])
  simp [this]
 ·refine ⟨k+1,⟨by omega,ou (0,0) (by omega) (by omega) hp h⟩, ?_,by omega⟩
  (refine Le.of ?_ ?_<;>simp [go_sem,simprocAttr,eR])
 ·have:k=g.es.length:=by omega
  subst this
  rw [List.take_of_length_le (Nat.le_refl _),List.take_of_length_le (by omega)] at hp
  simp [*]
end Go.Ab
end
section
namespace Go.Ab
open Go.Proofs
attribute [local congr] ACall.congr
set_option maxRecDepth 10000
def LY (g:Gr) (out:List Int) (x:Nat) (i:Nat):Bool:=(List.range i).all fun j=> !decide (hd g j=(x:Int))||decide (tl g j∈out)
def Oq (g:Gr) (out:List Int) (k:Nat) (f:Bool):Prop:=k≤g.n.toNat∧(if f then 0<k∧wt g out (k - 1)=0∧∀j,j<k - 1→wt g out j≠0 else ∀j,j<k→wt g out j≠0)
def Ot (out:List Int) (k:Nat) (f:Bool):List Int:=if f then out++ [((k - 1:Nat):Int)] else out
end Go.Ab
end
section
namespace Go.Ab
open Go.Proofs
attribute [local congr] ACall.congr
set_option maxRecDepth 10000
end Go.Ab
end
section
namespace Go.Ab
open Go.Proofs
set_option maxRecDepth 10000
structure Pl where
 ord:List Int
 outs:List (List Int)
def au (p:Pl) (k:Nat):Int:=p.ord.getD k 0
def aW (p:Pl) (x:Int):List Int:=p.outs.getD x.toNat []
def bF (g:Gr) (p:Pl):Prop:=p.outs.length=g.n.toNat∧p.ord.Perm (jg g.n.toNat)∧∀x:Nat,x<g.n.toNat→(p.outs.getD x []).Perm (bu g x)
def fK (g:Gr) (p:Pl):Nat→Fr
 |0=>⟨[], []⟩
 |k+1=>(aA g (fK g p k) (au p k) (aW p (au p k))).2
def fF (g:Gr) (p:Pl) (k:Nat):List It:=(aA g (fK g p k) (au p k) (aW p (au p k))).1.1
def x7 (g:Gr) (p:Pl) (k:Nat):Bool:=aC g (fK g p k) (au p k)
def eH (g:Gr) (p:Pl):Nat→List (List It)
 |0=>List.replicate g.n.toNat []
 |k+1=>(eH g p k).set (au p k).toNat (fF g p k)
def iW (g:Gr) (p:Pl):Nat→Option Nat
 |0=>none
 |k+1=>match iW g p k with
  |some i=>some i
  |none=>if x7 g p k=true then none else some k
def cA (g:Gr) (p:Pl):Prop:=(cr g).1=0∧bF g p∧∀k,k<g.n.toNat→x7 g p k=true
theorem fu {g:Gr} {p:Pl} :∀ {k:Nat},iW g p k=none↔∀j,j<k→x7 g p j=true
 |0=>by simp [iW]
 |k+1=>by
  rw [iW]
  cases h:iW g p k with
  |some i=>
   simp only [reduceCtorEq,false_iff]
   intro h2
   rw [fu.2 fun j hj=>h2 j (by omega)] at h
   cases h
  |none=>
   have ih:=fu.1 h
   simp only
   constructor
   ·intro h2 j hj
    by_cases hjk:j=k
    ·subst hjk
     refine Decidable.byContradiction fun hn=> ?_
     rw [if_neg hn] at h2;cases h2
    ·exact ih j (by omega)
   ·intro h2
    rw [if_pos (h2 k (by omega))]
theorem mK {g:Gr} {p:Pl} {i:Nat} :∀ {k:Nat},iW g p k=some i↔i<k∧x7 g p i=false∧∀j,j<i→x7 g p j=true
 |0=>by simp [iW]
 |k+1=>by
  rw [iW]
  cases h:iW g p k with
  |some i'=>
   have ih:=(mK (g:=g) (p:=p)).1 h
   simp only [Option.some.injEq]
   constructor
   ·rintro rfl
    exact ⟨by omega,ih.2⟩
   ·rintro ⟨h1,h2,h3⟩
    rcases Nat.lt_trichotomy i' i with h4|h4|h4
    ·rw [h3 i' h4] at ih;simp at ih
    ·exact h4
    ·rw [ih.2.2 i h4] at h2;cases h2
  |none=>
   have ih:=fu.1 h
   simp only
   constructor
   ·intro h2
    by_cases hk:x7 g p k=true
    ·rw [if_pos hk] at h2;cases h2
    ·rw [if_neg hk] at h2
     cases h2
     exact ⟨by omega,by simpa using hk,ih⟩
   ·rintro ⟨h1,h2,h3⟩
    have:i=k:=by
     by_cases h4:i<k
     ·rw [ih i h4] at h2;cases h2
     ·omega
    subst this
    rw [if_neg (by rw [h2];simp)]
theorem nK {n:Nat} :(jg n).length=n:=by simp [jg]
theorem bW {g:Gr} {p:Pl} (h:bF g p):p.ord.length=g.n.toNat:=by rw [h.2.1.length_eq,nK]
theorem rV {g:Gr} {p:Pl} (h:bF g p):p.ord.Nodup:=h.2.1.nodup_iff.2 ke
theorem aG {g:Gr} {p:Pl} (h:bF g p) {k:Nat} (hk:k<g.n.toNat):0≤au p k∧au p k<g.n:=by
 have h1:au p k∈p.ord:=aK (by rw [bW h];exact hk)
 have:=ej.1 (h.2.1.mem_iff.1 h1)
 omega
theorem dV {g:Gr} {p:Pl} (h:bF g p) {i j:Nat} (hi:i<g.n.toNat) (hj:j<g.n.toNat) (e:au p i=au p j):i=j:=
 rz (rV h) (by rw [bW h];exact hi) (by rw [bW h];exact hj) e
theorem gV {g:Gr} {p:Pl} (h:bF g p) {x:Int} (h0:0≤x) (h1:x<g.n):∃k,k<g.n.toNat∧au p k=x:=by
 have:x∈p.ord:=h.2.1.mem_iff.2 (ej.2 (by omega))
 obtain ⟨k,hk,e⟩:=List.mem_iff_getElem.1 this
 refine ⟨k,by rw [← bW h];exact hk, ?_⟩
 rw [au,List.getD_eq_getElem?_getD,List.getElem?_eq_getElem hk,Option.getD_some,e]
theorem bR {g:Gr} {p:Pl} (h:bF g p) {x:Int} (h0:0≤x) (h1:x<g.n):(aW p x).Perm (bu g x):=by
 have:=h.2.2 x.toNat (by omega)
 rwa [show ((x.toNat:Nat):Int)=x by omega] at this
theorem iX {g:Gr} {p:Pl} (h:bF g p) {x:Int} (h0:0≤x) (h1:x<g.n):(aW p x).length≤g.es.length:=by
 rw [(bR h h0 h1).length_eq];exact wv
theorem c9 {g:Gr} (hm:aU g=true) {p:Pl} (h:bF g p):∀ {k:Nat},k≤g.n.toNat→(∀j,j<k→x7 g p j=true)→wN g (fK g p k)∧(fK g p k).pl=p.ord.take k∧(fK g p k).row.length≤k*(g.es.length+1)
 |0,_,_=>⟨yS g,by simp [fK],by simp [fK]⟩
 |k+1,hk,hok=>by
  obtain ⟨h1,h2,h3⟩:=c9 hm h (k:=k) (by omega) fun j hj=>hok j (by omega)
  obtain ⟨x0,x1⟩:=aG h (k:=k) (by omega)
  have hl:=Af (g:=g) (f:=fK g p k) (x:=au p k) (o:=aW p (au p k))
  have EL:=iX h x0 x1
  refine ⟨jO hm h1 (hok k (by omega)) (bR h x0 x1), ?_, ?_⟩
  ·show (fK g p k).pl++ [au p k]=_
   rw [h2,List.take_add_one,List.getElem?_eq_getElem (by rw [bW h];omega),au,List.getD_eq_getElem?_getD,List.getElem?_eq_getElem (by rw [bW h];omega)]
   rfl
  ·show (aA _ _ _ _).2.row.length≤_
   rw [Nat.add_mul];omega
theorem wR {g:Gr} {p:Pl} (h:bF g p) {k:Nat} (hk:k<g.n.toNat) (hR:x7 g p k=true):cV g (fK g p k) (au p k) (aW p (au p k))=aA g (fK g p k) (au p k) (aW p (au p k)):=by
 have hp:=bR h (aG h hk).1 (aG h hk).2
 unfold cV
 have FJ:aC g (fK g p k) (au p k)=true:=hR
 rw [if_neg (by rw [FJ];simp),if_neg]
 rintro (h|⟨i,h1,h2⟩)
 ·exact h hp.length_eq
 ·exact h2 (hp.mem_iff.2 h1)
theorem wS {g:Gr} {p:Pl} {k:Nat} (hR:x7 g p k=false):cV g (fK g p k) (au p k) (aW p (au p k))=(([],3),fK g p k):=if_pos hR
theorem k8 {g:Gr} {p:Pl} :∀ {k:Nat},(eH g p k).length=g.n.toNat
 |0=>by simp [eH]
 |k+1=>by rw [eH,List.length_set,k8]
theorem Aq {α:Type} {l:List α} {i j:Nat} {a d:α} (hi:i<l.length):(l.set i a).getD j d=if j=i then a else l.getD j d:=by
 rw [List.getD_eq_getElem?_getD,List.getElem?_set,List.getD_eq_getElem?_getD]
 by_cases h:i=j
 ·subst h;simp [hi]
 ·rw [if_neg h,if_neg (Ne.symm h)]
theorem nL {g:Gr} {p:Pl} (h:bF g p):∀ {k:Nat},k≤g.n.toNat→∀ {i:Nat},i<k→(eH g p k).getD (au p i).toNat []=fF g p i
 |0,_,i,hi=>by omega
 |k+1,hk,i,hi=>by
  have hm:=aG h (k:=k) (by omega)
  rw [eH,Aq (by rw [k8];omega)]
  by_cases e:i=k
  ·subst e;rw [if_pos rfl]
  ·have ML:=aG h (k:=i) (by omega)
   rw [if_neg (fun h2=>e (dV h (by omega) (by omega) (by omega)))]
   exact nL h (by omega) (by omega)
theorem nM {l m:List Int} (h:gN l=m):l.Perm m:=by
 rw [← h];exact (List.mergeSort_perm l _).symm
theorem wT {n:Nat} :(jg n).Pairwise (· ≤ ·):=by
 unfold jg
 refine List.Pairwise.map _ (fun a b (h:a<b)=> ?_) List.pairwise_lt_range
 show (a:Int)≤b
 omega
theorem Ef {g:Gr} (hm:aU g=true) {p:Pl} :(p.outs.length=g.n.toNat∧p.ord.length=g.n.toNat∧(∀i:Nat,i<(gN p.ord).length→(gN p.ord).getD i 0=i)∧∀x:Nat,x<p.outs.length→gN (p.outs.getD x [])=bp (·.1) g x)↔bF g p:=by
 constructor
 ·rintro ⟨h1,h2,h3,h4⟩
  refine ⟨h1,nM ?_,fun x hx=> ?_⟩
  ·refine List.ext_getElem (by rw [fh,h2,nK]) fun i h5 h6=> ?_
   have:=h3 i h5
   rw [List.getD_eq_getElem?_getD,List.getElem?_eq_getElem h5,Option.getD_some] at this
   rw [this];simp [jg]
  ·have:=h4 x (by omega)
   rw [gu (by omega) (by omega)] at this
   exact nM this
 ·intro h
  refine ⟨h.1,bW h, ?_,fun x hx=> ?_⟩
  ·rw [rP h.2.1 wT]
   intro i hi
   rw [nK] at hi
   simp [jg,List.getD_eq_getElem?_getD,List.getElem?_range hi]
  ·rw [gu (by omega) (by have:=h.1;omega)]
   exact rP (h.2.2 x (by rw [← h.1];exact hx)) pH
theorem yV {g:Gr} (hm:aU g=true) {p:Pl} :(ga p.ord g.n=true∧p.outs.length=g.n.toNat∧(∀x:Nat,x<p.outs.length→∀i∈p.outs.getD x [],i∈bu g x)∧p.outs.flatten.Nodup∧∀i:Nat,i<g.es.length→(i:Int)∈p.outs.flatten)↔bF g p:=by
 have hn:=aZ hm
 constructor
 ·rintro ⟨h1,h2,h3,h4,h5⟩
  refine ⟨h2, ?_,fun x hx=> ?_⟩
  ·obtain ⟨e1,e2⟩:=bX.1 h1
   exact qb ke e2 (by rw [nK];omega)
  ·have hxl:x<p.outs.length:=by omega
   have hmem:p.outs.getD x []∈p.outs:=aK hxl
   have cg:(p.outs.getD x []).Nodup:=by
    rw [List.Nodup,List.pairwise_flatten] at h4
    exact h4.1 _ hmem
   refine (List.perm_ext_iff_of_nodup cg cW).2 fun i=>⟨h3 x hxl i,fun hi=> ?_⟩
   obtain ⟨k,rfl,hk,ht⟩:=jM hi
   obtain ⟨l,hl,cu⟩:=List.mem_flatten.1 (h5 k hk)
   obtain ⟨y,hy,rfl⟩:=List.mem_iff_getElem.1 hl
   have e:p.outs.getD y []=p.outs[y]:=by rw [List.getD_eq_getElem?_getD,List.getElem?_eq_getElem hy];rfl
   rw [← e] at cu
   obtain ⟨k',e1,_,e2⟩:=jM (h3 y hy _ cu)
   have:k=k':=by omega
   subst this
   have:x=y:=by omega
   subst this
   exact cu
 ·intro h
  refine ⟨bX.2 ⟨?_,fun x hx=>h.2.1.mem_iff.2 hx⟩,h.1,fun x hx i hi=>(h.2.2 x (by rw [← h.1];exact hx)).mem_iff.1 hi, ?_,fun i hi=> ?_⟩
  ·have:=bW h;omega
  ·rw [List.Nodup,List.pairwise_flatten]
   constructor
   ·intro l hl
    obtain ⟨x,hx,rfl⟩:=List.mem_iff_getElem.1 hl
    have e:p.outs.getD x []=p.outs[x]:=by rw [List.getD_eq_getElem?_getD,List.getElem?_eq_getElem hx];rfl
    rw [← e]
    exact (h.2.2 x (by rw [← h.1];exact hx)).nodup_iff.2 cW
   ·refine List.pairwise_iff_getElem.2 fun x y hx hy hxy a ha b hb e=> ?_
    subst e
    have ex:p.outs.getD x []=p.outs[x]:=by rw [List.getD_eq_getElem?_getD,List.getElem?_eq_getElem hx];rfl
    have ey:p.outs.getD y []=p.outs[y]:=by rw [List.getD_eq_getElem?_getD,List.getElem?_eq_getElem hy];rfl
    rw [← ex] at ha
    rw [← ey] at hb
    obtain ⟨k,e1,_,e2⟩:=jM ((h.2.2 x (by rw [← h.1];exact hx)).mem_iff.1 ha)
    obtain ⟨k',e3,_,e4⟩:=jM ((h.2.2 y (by rw [← h.1];exact hy)).mem_iff.1 hb)
    have:k=k':=by omega
    subst this
    omega
  ·have ht:=(gj hm hi).1
   refine List.mem_flatten.2 ⟨p.outs.getD (tl g i).toNat [],aK (by rw [h.1];have:0≤tl g i∧tl g i<g.n:=ht;omega), ?_⟩
   have:0≤tl g i∧tl g i<g.n:=ht
   refine (h.2.2 _ (by omega)).mem_iff.2 ?_
   simp only [bu,bg,List.mem_map,List.mem_filter,List.mem_range,decide_eq_true_eq]
   exact ⟨i,⟨hi,by show tl g i=_;omega⟩,rfl⟩
end Go.Ab
end
section
namespace Go.Ab
open Go.Proofs
set_option maxRecDepth 10000
def tq (g:Gr) (p:Pl) (f:Fr) (x:Int):Fr:=(aA g f x (aW p x)).2
def Jf (g:Gr) (p:Pl):Nat→Fr→Prop
 |0,f=>(f.pl.length:Int)=g.n
 |m+1,f=>∃x,aC g f x=true∧Jf g p m (tq g p f x)
def Jg (rev:Bool) (l:List It):List It:=if rev=true then l.reverse else l
def Cs (g:Gr) (f:Fr) (rev:Bool):Int:=match (Jg rev f.row).find? (fun t=>aC g f t.2.2) with
 |some t=>t.2.2
 |none=>(FL g f).headD (-1)
def yW (g:Gr) (p:Pl) (rev:Bool):Nat→Fr
 |0=>⟨[], []⟩
 |k+1=>tq g p (yW g p rev k) (Cs g (yW g p rev k) rev)
def Ct (g:Gr) (p:Pl) (rev:Bool):Nat→List Int
 |0=>List.replicate g.n.toNat 0
 |k+1=>(Ct g p rev k).set (Cs g (yW g p rev k) rev).toNat (k:Int)
def Ou (g:Gr) (p:Pl) (rev:Bool):List Int:=(List.range g.n.toNat).map fun k=>Cs g (yW g p rev k) rev
end Go.Ab
end
section
namespace Go.Ab
open Go.Proofs
set_option maxRecDepth 10000
def Ov (f:Fr):Fr:=⟨f.row.reverse,f.pl⟩
def Ow (p:Pl):Pl:=⟨p.ord,p.outs.map List.reverse⟩
theorem fW.rev {x:Int} {l:List It} (h:fW x l):fW x l.reverse:=fun t ht=>h t (List.mem_reverse.1 ht)
theorem Ah.rev {x:Int} {X:List It} (h:Ah x X):Ah x X.reverse:=
 ⟨by obtain ⟨X',q,h1,h2⟩:=h.Ds;exact ⟨q,X'.reverse,by simp [h1],h2⟩,by obtain ⟨p,X',h1,h2⟩:=h.fst;exact ⟨X'.reverse,p,by simp [h1],h2⟩,fun t ht=>h.al t (List.mem_reverse.1 ht)⟩
end Go.Ab
end
section
namespace Go.Ab
open Go.Proofs
set_option maxRecDepth 10000
def loose (l:List It):List Int:=(l.filter fun t=>decide (t.1<0)).map fun t=>t.2.1
theorem tr {a b:List It} :loose (a++b)=loose a++loose b:=by simp [loose]
def Jh (g:Gr) (p:Pl):Nat→List Edge
 |0=> []
 |k+1=>Jh g p k++(loose (fF g p k)).map fun v=>(v,au p k)
def k9 (g:Gr) (p:Pl):List It:=(fK g p g.n.toNat).row
def newL (g:Gr) (p:Pl):List Edge:=if 1<(k9 g p).length then (loose (k9 g p)).map fun v=>(v,g.n) else []
def Ji (g:Gr) (p:Pl):List Edge:=Jh g p g.n.toNat++newL g p
def Cu (g:Gr) (p:Pl):Gr:=⟨if 1<(k9 g p).length then g.n+1 else g.n,g.es++Ji g p⟩
def Jj:Nat→List Edge→List (List Int)→List (List Int)
 |_, [],O=>O
 |m,e::N,O=>Jj (m+1) N (O.set e.1.toNat [(m:Int)])
def LZ (g:Gr) (p:Pl):Pl:=⟨if 1<(k9 g p).length then p.ord++ [g.n] else p.ord,Jj g.es.length (Ji g p) (if 1<(k9 g p).length then p.outs++ [[]] else p.outs)⟩
def Ox (g:Gr) (p:Pl) (x:Gr):List (List Int):=(List.range x.n.toNat).map fun v=>if 0<(p.outs.getD v []).length then p.outs.getD v [] else bu x (v:Int)
theorem nN {g:Gr} {p:Pl} (h:bF g p) {v:Int} (h0:0≤v) (h1:v<g.n):bu g v= []↔aW p v= []:=by
 have hp:=bR h h0 h1
 constructor
 ·intro e;rw [e] at hp;exact hp.eq_nil
 ·intro e;rw [e] at hp;exact hp.symm.eq_nil
end Go.Ab
end
section
namespace Go.Ab
open Go.Proofs
set_option maxRecDepth 10000
abbrev Act:=Int × List Int
def rA (a:Act):List D:= [.sc (.int .i64 a.1),sI a.2]
def sA (as':List Act):D:= .sl 2 (as'.map rA)
attribute [go_sem] sA
def Jk (g:Gr) (FO:List Act):Nat→Fr
 |0=>⟨[], []⟩
 |k+1=>(cV g (Jk g FO k) (FO.getD k (0, [])).1 (FO.getD k (0, [])).2).2
theorem EU {g:Gr} {f:Fr} (hi:gP g f):(f.pl.length:Int)≤g.n∨f.pl= []:=by
 by_cases h:f.pl= []
 ·exact .inr h
 ·left
  obtain ⟨y,hy⟩:=List.exists_mem_of_ne_nil _ h
  have:=hi.FM y hy
  have h3:=mJ hi.pl (m:=(List.range g.n.toNat).map Int.ofNat) (fun y hy=>by
   rw [List.mem_map]
   have:=hi.FM y hy
   exact ⟨y.toNat,List.mem_range.2 (by omega),by simp;omega⟩)
  simp at h3
  omega
theorem wU (g:Gr) (hm:aU g=true) (f:Fr) (hi:wN g f) (x:Int) (outs:List Int) (hr:f.row.length≤300000) (hp:f.pl.length≤100000) (ho:outs.length≤17592186043904):
 Spec Tryz.prog 86 (Args [.ptr 10000 0,eN x, .d (sI outs)]) (iN g f) (.tup [.d (sT (cV g f x outs).1.1),eN (cV g f x outs).1.2]) (rL g (cV g f x outs).2):=by
 rw [← Cn hm hi.togP]
 exact x6 g hm f x outs hr hp ho
end Go.Ab
end
section
namespace Go.Ab
open Go.Proofs
attribute [local congr] ACall.congr
set_option maxRecDepth 10000
set_option maxHeartbeats 4000000
def ePl (p:Pl):AV:= .agg [.d (sI p.ord), .d (.sl 1 (vI p.outs))]
attribute [go_sem] ePl
structure pI (p:Pl):Prop where
 ord:p.ord.length≤17592186043904
 outs:p.outs.length≤9223372036854775807
 each:∀l∈p.outs,l.length≤17592186043904
theorem Cv (g:Gr) (hm:aU g=true) (p:Pl) (hp:pI p) (res:Bool) (hr:res=true↔bF g p):Spec Tryz.prog 85 (Args [.d (vw g),ePl p]) [] (eB res) []:=by
 rw [← Ef hm] at hr
 have hn:=aZ hm
 have ho:=hp.ord
 have Gw:=hp.outs
 by_cases h1:p.outs.length=g.n.toNat∧p.ord.length=g.n.toNat
 rotate_left
 ·have hres:res=false:=by
   rw [← Bool.not_eq_true,hr]
   rintro ⟨h2,h3,_⟩
   exact h1 ⟨h2,h3⟩
  subst hres
  by_cases h2:(p.outs.length:Int)=g.n
  ·have an:decide ((p.outs.length:Int)=g.n)=true:=decide_eq_true h2
   have aj:decide ((p.ord.length:Int)=g.n)=false:=decide_eq_false fun h3=>h1 ⟨by omega,by omega⟩
   (refine Spec.intro (C:=T.cfg [] []) (rs:= [.t 4]) (T.aq _ _) Tryz.func85 rfl rfl Tryz.ntmps85 Tryz.results85 (by simp [AObj.isNest]) (by simp [AObj.isNest]) (by kernel_rfl) ?_;intro X hX hP hC aN aO vals hA;refine ⟨_,by simp,hA, ?_⟩;have af:X.P.follows .mixedOrders=true:=(by rw [hP];exact T.mixed);clear aN aO)
   repeat' (first|fail|((first|((with_reducible (first|apply oA|apply oB));exact rfl;intro K hK)|(refine hK _ ?_;clear hK K)|((with_reducible (first|apply oG|apply oH));iterate 3 exact rfl)|((with_reducible apply oI);(iterate 2 exact rfl);intro K hK)|(with_reducible (first|apply wI|apply wJ|apply wK)));try simp only [go_sem,simprocAttr,ah,an,aj])|fail|(with_reducible (first|apply oC|apply oJ|exact oK|apply wA|apply wB|apply wC hX hC|apply wD hX hC|apply wE hX hC af|apply wF hX hC af|apply wG|apply wH|apply And.intro))|((with_reducible refine oD ?_ ?_);first|fail|kernel_rfl)|((with_reducible (first|apply oE|apply oF));(iterate 3 exact rfl);all_goals (intro h;first|(exact absurd h (by decide))|((try simp only [go_sem,simprocAttr,ah,an,aj] at h);(try with_reducible intro K hK);simp only [go_sem,simprocAttr,ah,an,aj])))|((first|((with_reducible apply wL);exact rfl)|((with_reducible apply wM);exact rfl));all_goals (try ((with_reducible intro h);first|(exact absurd h (by decide))|(try simp only [go_sem,simprocAttr,ah,an,aj] at h))))|omega|((first|fail);try simp only [go_sem,simprocAttr,ah,an,aj])|(intro h))
  ·have an:decide ((p.outs.length:Int)=g.n)=false:=decide_eq_false h2
   (refine Spec.intro (C:=T.cfg [] []) (rs:= [.t 4]) (T.aq _ _) Tryz.func85 rfl rfl Tryz.ntmps85 Tryz.results85 (by simp [AObj.isNest]) (by simp [AObj.isNest]) (by kernel_rfl) ?_;intro X hX hP hC aN aO vals hA;refine ⟨_,by simp,hA, ?_⟩;have af:X.P.follows .mixedOrders=true:=(by rw [hP];exact T.mixed);clear aN aO)
   repeat' (first|fail|((first|((with_reducible (first|apply oA|apply oB));exact rfl;intro K hK)|(refine hK _ ?_;clear hK K)|((with_reducible (first|apply oG|apply oH));iterate 3 exact rfl)|((with_reducible apply oI);(iterate 2 exact rfl);intro K hK)|(with_reducible (first|apply wI|apply wJ|apply wK)));try simp only [go_sem,simprocAttr,ah,an])|fail|(with_reducible (first|apply oC|apply oJ|exact oK|apply wA|apply wB|apply wC hX hC|apply wD hX hC|apply wE hX hC af|apply wF hX hC af|apply wG|apply wH|apply And.intro))|((with_reducible refine oD ?_ ?_);first|fail|kernel_rfl)|((with_reducible (first|apply oE|apply oF));(iterate 3 exact rfl);all_goals (intro h;first|(exact absurd h (by decide))|((try simp only [go_sem,simprocAttr,ah,an] at h);(try with_reducible intro K hK);simp only [go_sem,simprocAttr,ah,an])))|((first|((with_reducible apply wL);exact rfl)|((with_reducible apply wM);exact rfl));all_goals (try ((with_reducible intro h);first|(exact absurd h (by decide))|(try simp only [go_sem,simprocAttr,ah,an] at h))))|omega|((first|fail);try simp only [go_sem,simprocAttr,ah,an])|(intro h))
 have an:decide ((p.outs.length:Int)=g.n)=true:=decide_eq_true (by omega)
 have aj:decide ((p.ord.length:Int)=g.n)=true:=decide_eq_true (by omega)
 have AR:=fh p.ord
 (refine Spec.intro (C:=T.cfg [] []) (rs:= [.t 4]) (T.aq _ _) Tryz.func85 rfl rfl Tryz.ntmps85 Tryz.results85 (by simp [AObj.isNest]) (by simp [AObj.isNest]) (by kernel_rfl) ?_;intro X hX hP hC aN aO vals hA;refine ⟨_,by simp,hA, ?_⟩;have af:X.P.follows .mixedOrders=true:=(by rw [hP];exact T.mixed);clear aN aO)
 repeat' (first|fail|((first|((with_reducible (first|apply oA|apply oB));exact rfl;intro K hK)|(refine hK _ ?_;clear hK K)|((with_reducible (first|apply oG|apply oH));iterate 3 exact rfl)|((with_reducible apply oI);(iterate 2 exact rfl);intro K hK)|(with_reducible (first|apply wI|apply wJ|apply wK)));try simp only [go_sem,simprocAttr,ah,an,aj])|fail|(with_reducible (first|apply oC|apply oJ|exact oK|apply wA|apply wB|apply wC hX hC|apply wD hX hC|apply wE hX hC af|apply wF hX hC af|apply wG|apply wH|apply And.intro))|((with_reducible refine oD ?_ ?_);first|fail|kernel_rfl)|((with_reducible (first|apply oE|apply oF));(iterate 3 exact rfl);all_goals (intro h;first|(exact absurd h (by decide))|((try simp only [go_sem,simprocAttr,ah,an,aj] at h);(try with_reducible intro K hK);simp only [go_sem,simprocAttr,ah,an,aj])))|((first|((with_reducible apply wL);exact rfl)|((with_reducible apply wM);exact rfl));all_goals (try ((with_reducible intro h);first|(exact absurd h (by decide))|(try simp only [go_sem,simprocAttr,ah,an,aj] at h))))|omega|((first|first|(refine az hX hC hP [(10000,31)] (cz p.ord) rfl rfl rfl ?_ ?_ ?_ ?_ ?_ ?_ ?_ ?_ ?_ ?_ ?_ ?_ ?_ ?_;(focus (simp only [go_sem,simprocAttr,ah,an,aj];done));(iterate 12 (focus (simp [go_sem,simprocAttr,ah,an,aj];done)));simp only [go_sem,simprocAttr,ah,an,aj,List.map_cons,List.map_nil])|(refine aR hX hC hP [(10000,31)] (bY p.ord ho) rfl rfl rfl ?_ ?_ ?_ ?_ ?_ ?_ rfl rfl ?_ ?_;(focus (simp only [go_sem,simprocAttr,ah,an,aj];done));(iterate 6 (focus (simp [go_sem,simprocAttr,ah,an,aj];done)));simp only [go_sem,simprocAttr,ah,an,aj,List.map_cons,List.map_nil]));try simp only [go_sem,simprocAttr,ah,an,aj])|(intro h))
 clear an aj
 refine ak (fun k:Nat=>k≤(gN p.ord).length∧∀i:Nat,i<k→(gN p.ord).getD i 0=i) (fun k=>⟨[(0, .d (vw g)),(3, .ptr 3 0),(32, .d (sI (gN p.ord))),(33,eN (gN p.ord).length),(34,eN k)], [(3, .box [.d (sI p.ord), .d (.sl 1 (vI p.outs))])]⟩) (fun k=>(gN p.ord).length - k) 0 (by simp) ?_ ?_
 ·(refine Le.of ?_ ?_<;>simp [go_sem,simprocAttr,ah])
 rintro k ⟨hk,hg⟩
 rcases Nat.lt_or_ge k (gN p.ord).length with hlt|hge
 ·have hb:decide ((k:Int)<((gN p.ord).length:Int))=true:=decide_eq_true (by omega)
  by_cases he:(gN p.ord).getD k 0=k
  ·have aj:decide ((gN p.ord).getD k 0=(k:Int))=true:=decide_eq_true he
   repeat' (first|fail|((first|((with_reducible (first|apply oA|apply oB));exact rfl;intro K hK)|(refine hK _ ?_;clear hK K)|((with_reducible (first|apply oG|apply oH));iterate 3 exact rfl)|((with_reducible apply oI);(iterate 2 exact rfl);intro K hK)|(with_reducible (first|apply wI|apply wJ|apply wK)));try simp only [go_sem,simprocAttr,ah,hb,aj])|fail|(with_reducible (first|apply oC|apply oJ|exact oK|apply wA|apply wB|apply wC hX hC|apply wD hX hC|apply wE hX hC af|apply wF hX hC af|apply wG|apply wH|apply And.intro))|((with_reducible refine oD ?_ ?_);first|fail|kernel_rfl)|((with_reducible (first|apply oE|apply oF));(iterate 3 exact rfl);all_goals (intro h;first|(exact absurd h (by decide))|((try simp only [go_sem,simprocAttr,ah,hb,aj] at h);(try with_reducible intro K hK);simp only [go_sem,simprocAttr,ah,hb,aj])))|((first|((with_reducible apply wL);exact rfl)|((with_reducible apply wM);exact rfl));all_goals (try ((with_reducible intro h);first|(exact absurd h (by decide))|(try simp only [go_sem,simprocAttr,ah,hb,aj] at h))))|omega|((first|first|(refine az hX hC hP [(10000,31)] (cz p.ord) rfl rfl rfl ?_ ?_ ?_ ?_ ?_ ?_ ?_ ?_ ?_ ?_ ?_ ?_ ?_ ?_;(focus (simp only [go_sem,simprocAttr,ah,hb,aj];done));(iterate 12 (focus (simp [go_sem,simprocAttr,ah,hb,aj];done)));simp only [go_sem,simprocAttr,ah,hb,aj,List.map_cons,List.map_nil])|(refine aR hX hC hP [(10000,31)] (bY p.ord ho) rfl rfl rfl ?_ ?_ ?_ ?_ ?_ ?_ rfl rfl ?_ ?_;(focus (simp only [go_sem,simprocAttr,ah,hb,aj];done));(iterate 6 (focus (simp [go_sem,simprocAttr,ah,hb,aj];done)));simp only [go_sem,simprocAttr,ah,hb,aj,List.map_cons,List.map_nil]));try simp only [go_sem,simprocAttr,ah,hb,aj])|(intro h))
   refine ⟨k+1,⟨by omega,fun i hi=> ?_⟩, ?_,by omega⟩
   ·by_cases hik:i=k
    ·subst hik;exact he
    ·exact hg i (by omega)
   ·(refine Le.of ?_ ?_<;>simp [go_sem,simprocAttr,ah,hb,aj])
  ·have aj:decide ((gN p.ord).getD k 0=(k:Int))=false:=decide_eq_false he
   have hres:res=false:=by
    rw [← Bool.not_eq_true,hr]
    rintro ⟨_,_,h3,_⟩
    exact he (h3 k hlt)
   subst hres
   repeat' (first|fail|((first|((with_reducible (first|apply oA|apply oB));exact rfl;intro K hK)|(refine hK _ ?_;clear hK K)|((with_reducible (first|apply oG|apply oH));iterate 3 exact rfl)|((with_reducible apply oI);(iterate 2 exact rfl);intro K hK)|(with_reducible (first|apply wI|apply wJ|apply wK)));try simp only [go_sem,simprocAttr,ah,hb,aj])|fail|(with_reducible (first|apply oC|apply oJ|exact oK|apply wA|apply wB|apply wC hX hC|apply wD hX hC|apply wE hX hC af|apply wF hX hC af|apply wG|apply wH|apply And.intro))|((with_reducible refine oD ?_ ?_);first|fail|kernel_rfl)|((with_reducible (first|apply oE|apply oF));(iterate 3 exact rfl);all_goals (intro h;first|(exact absurd h (by decide))|((try simp only [go_sem,simprocAttr,ah,hb,aj] at h);(try with_reducible intro K hK);simp only [go_sem,simprocAttr,ah,hb,aj])))|((first|((with_reducible apply wL);exact rfl)|((with_reducible apply wM);exact rfl));all_goals (try ((with_reducible intro h);first|(exact absurd h (by decide))|(try simp only [go_sem,simprocAttr,ah,hb,aj] at h))))|omega|((first|first|(refine az hX hC hP [(10000,31)] (cz p.ord) rfl rfl rfl ?_ ?_ ?_ ?_ ?_ ?_ ?_ ?_ ?_ ?_ ?_ ?_ ?_ ?_;(focus (simp only [go_sem,simprocAttr,ah,hb,aj];done));(iterate 12 (focus (simp [go_sem,simprocAttr,ah,hb,aj];done)));simp only [go_sem,simprocAttr,ah,hb,aj,List.map_cons,List.map_nil])|(refine aR hX hC hP [(10000,31)] (bY p.ord ho) rfl rfl rfl ?_ ?_ ?_ ?_ ?_ ?_ rfl rfl ?_ ?_;(focus (simp only [go_sem,simprocAttr,ah,hb,aj];done));(iterate 6 (focus (simp [go_sem,simprocAttr,ah,hb,aj];done)));simp only [go_sem,simprocAttr,ah,hb,aj,List.map_cons,List.map_nil]));try simp only [go_sem,simprocAttr,ah,hb,aj])|(intro h))
 have hb:decide ((k:Int)<((gN p.ord).length:Int))=false:=decide_eq_false (by omega)
 repeat' (first|fail|((first|((with_reducible (first|apply oA|apply oB));exact rfl;intro K hK)|(refine hK _ ?_;clear hK K)|((with_reducible (first|apply oG|apply oH));iterate 3 exact rfl)|((with_reducible apply oI);(iterate 2 exact rfl);intro K hK)|(with_reducible (first|apply wI|apply wJ|apply wK)));try simp only [go_sem,simprocAttr,ah,hb])|fail|(with_reducible (first|apply oC|apply oJ|exact oK|apply wA|apply wB|apply wC hX hC|apply wD hX hC|apply wE hX hC af|apply wF hX hC af|apply wG|apply wH|apply And.intro))|((with_reducible refine oD ?_ ?_);first|fail|kernel_rfl)|((with_reducible (first|apply oE|apply oF));(iterate 3 exact rfl);all_goals (intro h;first|(exact absurd h (by decide))|((try simp only [go_sem,simprocAttr,ah,hb] at h);(try with_reducible intro K hK);simp only [go_sem,simprocAttr,ah,hb])))|((first|((with_reducible apply wL);exact rfl)|((with_reducible apply wM);exact rfl));all_goals (try ((with_reducible intro h);first|(exact absurd h (by decide))|(try simp only [go_sem,simprocAttr,ah,hb] at h))))|omega|((first|first|(refine az hX hC hP [(10000,31)] (cz p.ord) rfl rfl rfl ?_ ?_ ?_ ?_ ?_ ?_ ?_ ?_ ?_ ?_ ?_ ?_ ?_ ?_;(focus (simp only [go_sem,simprocAttr,ah,hb];done));(iterate 12 (focus (simp [go_sem,simprocAttr,ah,hb];done)));simp only [go_sem,simprocAttr,ah,hb,List.map_cons,List.map_nil])|(refine aR hX hC hP [(10000,31)] (bY p.ord ho) rfl rfl rfl ?_ ?_ ?_ ?_ ?_ ?_ rfl rfl ?_ ?_;(focus (simp only [go_sem,simprocAttr,ah,hb];done));(iterate 6 (focus (simp [go_sem,simprocAttr,ah,hb];done)));simp only [go_sem,simprocAttr,ah,hb,List.map_cons,List.map_nil]));try simp only [go_sem,simprocAttr,ah,hb])|(intro h))
 obtain rfl:k=(gN p.ord).length:=by omega
 clear hb hk
 refine ak (fun x:Nat=>x≤p.outs.length∧∀i:Nat,i<x→gN (p.outs.getD i [])=bp (·.1) g i) (fun x=>⟨[(0, .d (vw g)),(44, .d (.sl 1 (vI p.outs))),(45,eN p.outs.length),(46,eN x)], []⟩) (fun x=>p.outs.length - x) 0 (by simp) ?_ ?_
 ·refine Le.of ?_ ?_<;>simp [go_sem,simprocAttr,ah]
 rintro x ⟨hx,uU⟩
 rcases Nat.lt_or_ge x p.outs.length with hxl|Dl
 ·have hb:decide ((x:Int)<(p.outs.length:Int))=true:=decide_eq_true (by omega)
  have hv:=iV hxl
  have hl:=hp.each _ (aK (d:= []) hxl)
  have hn2:∀h:gN (p.outs.getD x [])=bp (·.1) g x,∀i:Nat,i<x+1→gN (p.outs.getD i [])=bp (·.1) g i:=fun h i hi=>by
   by_cases Gk:i=x
   ·subst Gk;exact h
   ·exact uU i (by omega)
  have xm:¬gN (p.outs.getD x [])=bp (·.1) g x→res=false:=fun h=>by
   rw [← Bool.not_eq_true,hr]
   rintro ⟨_,_,_,h4⟩
   exact h (h4 x hxl)
  generalize p.outs.getD x []=l at hv hl hn2 xm
  have Oy:=fh l
  by_cases he:gN l=bp (·.1) g x
  ·have aj:decide (gN l=bp (·.1) g (x:Int))=true:=decide_eq_true he
   repeat' (first|fail|((first|((with_reducible (first|apply oA|apply oB));exact rfl;intro K hK)|(refine hK _ ?_;clear hK K)|((with_reducible (first|apply oG|apply oH));iterate 3 exact rfl)|((with_reducible apply oI);(iterate 2 exact rfl);intro K hK)|(with_reducible (first|apply wI|apply wJ|apply wK)));try simp only [go_sem,simprocAttr,hb,hv,aj])|fail|(with_reducible (first|apply oC|apply oJ|exact oK|apply wA|apply wB|apply wC hX hC|apply wD hX hC|apply wE hX hC af|apply wF hX hC af|apply wG|apply wH|apply And.intro))|((with_reducible refine oD ?_ ?_);first|fail|kernel_rfl)|((with_reducible (first|apply oE|apply oF));(iterate 3 exact rfl);all_goals (intro h;first|(exact absurd h (by decide))|((try simp only [go_sem,simprocAttr,hb,hv,aj] at h);(try with_reducible intro K hK);simp only [go_sem,simprocAttr,hb,hv,aj])))|((first|((with_reducible apply wL);exact rfl)|((with_reducible apply wM);exact rfl));all_goals (try ((with_reducible intro h);first|(exact absurd h (by decide))|(try simp only [go_sem,simprocAttr,hb,hv,aj] at h))))|omega|((first|first|(refine az hX hC hP [(10000,52)] (cz l) rfl rfl rfl ?_ ?_ ?_ ?_ ?_ ?_ ?_ ?_ ?_ ?_ ?_ ?_ ?_ ?_;(focus (simp only [go_sem,simprocAttr,hb,hv,aj];done));(iterate 12 (focus (simp [go_sem,simprocAttr,hb,hv,aj];done)));simp only [go_sem,simprocAttr,hb,hv,aj,List.map_cons,List.map_nil])|(refine aR hX hC hP [(10000,52)] (bY l hl) rfl rfl rfl ?_ ?_ ?_ ?_ ?_ ?_ rfl rfl ?_ ?_;(focus (simp only [go_sem,simprocAttr,hb,hv,aj];done));(iterate 6 (focus (simp [go_sem,simprocAttr,hb,hv,aj];done)));simp only [go_sem,simprocAttr,hb,hv,aj,List.map_cons,List.map_nil])|refine aa hX hC hP (ic g hm (x:Int)) rfl rfl rfl (by simp only [go_sem,simprocAttr,hb,hv,aj]) rfl ?_|refine aa hX hC hP (fE (gN l) (bp (·.1) g x) (by omega)) rfl rfl rfl (by simp only [go_sem,simprocAttr,hb,hv,aj]) rfl ?_);try simp only [go_sem,simprocAttr,hb,hv,aj])|(intro h))
   refine ⟨x+1,⟨by omega,hn2 he⟩, ?_,by omega⟩
   (refine Le.of ?_ ?_<;>simp [go_sem,simprocAttr,hb,hv,aj])
  ·have aj:decide (gN l=bp (·.1) g (x:Int))=false:=decide_eq_false he
   have hres:=xm he
   subst hres
   repeat' (first|fail|((first|((with_reducible (first|apply oA|apply oB));exact rfl;intro K hK)|(refine hK _ ?_;clear hK K)|((with_reducible (first|apply oG|apply oH));iterate 3 exact rfl)|((with_reducible apply oI);(iterate 2 exact rfl);intro K hK)|(with_reducible (first|apply wI|apply wJ|apply wK)));try simp only [go_sem,simprocAttr,hb,hv,aj])|fail|(with_reducible (first|apply oC|apply oJ|exact oK|apply wA|apply wB|apply wC hX hC|apply wD hX hC|apply wE hX hC af|apply wF hX hC af|apply wG|apply wH|apply And.intro))|((with_reducible refine oD ?_ ?_);first|fail|kernel_rfl)|((with_reducible (first|apply oE|apply oF));(iterate 3 exact rfl);all_goals (intro h;first|(exact absurd h (by decide))|((try simp only [go_sem,simprocAttr,hb,hv,aj] at h);(try with_reducible intro K hK);simp only [go_sem,simprocAttr,hb,hv,aj])))|((first|((with_reducible apply wL);exact rfl)|((with_reducible apply wM);exact rfl));all_goals (try ((with_reducible intro h);first|(exact absurd h (by decide))|(try simp only [go_sem,simprocAttr,hb,hv,aj] at h))))|omega|((first|first|(refine az hX hC hP [(10000,52)] (cz l) rfl rfl rfl ?_ ?_ ?_ ?_ ?_ ?_ ?_ ?_ ?_ ?_ ?_ ?_ ?_ ?_;(focus (simp only [go_sem,simprocAttr,hb,hv,aj];done));(iterate 12 (focus (simp [go_sem,simprocAttr,hb,hv,aj];done)));simp only [go_sem,simprocAttr,hb,hv,aj,List.map_cons,List.map_nil])|(refine aR hX hC hP [(10000,52)] (bY l hl) rfl rfl rfl ?_ ?_ ?_ ?_ ?_ ?_ rfl rfl ?_ ?_;(focus (simp only [go_sem,simprocAttr,hb,hv,aj];done));(iterate 6 (focus (simp [go_sem,simprocAttr,hb,hv,aj];done)));simp only [go_sem,simprocAttr,hb,hv,aj,List.map_cons,List.map_nil])|refine aa hX hC hP (ic g hm (x:Int)) rfl rfl rfl (by simp only [go_sem,simprocAttr,hb,hv,aj]) rfl ?_|refine aa hX hC hP (fE (gN l) (bp (·.1) g x) (by omega)) rfl rfl rfl (by simp only [go_sem,simprocAttr,hb,hv,aj]) rfl ?_);try simp only [go_sem,simprocAttr,hb,hv,aj])|(intro h))
 ·have hb:decide ((x:Int)<(p.outs.length:Int))=false:=decide_eq_false (by omega)
  obtain rfl:x=p.outs.length:=by omega
  have hres:res=true:=hr.2 ⟨h1.1,h1.2,fun i hi=>hg i (by omega),uU⟩
  subst hres
  repeat' (first|fail|((first|((with_reducible (first|apply oA|apply oB));exact rfl;intro K hK)|(refine hK _ ?_;clear hK K)|((with_reducible (first|apply oG|apply oH));iterate 3 exact rfl)|((with_reducible apply oI);(iterate 2 exact rfl);intro K hK)|(with_reducible (first|apply wI|apply wJ|apply wK)));try simp only [go_sem,simprocAttr,hb])|fail|(with_reducible (first|apply oC|apply oJ|exact oK|apply wA|apply wB|apply wC hX hC|apply wD hX hC|apply wE hX hC af|apply wF hX hC af|apply wG|apply wH|apply And.intro))|((with_reducible refine oD ?_ ?_);first|fail|kernel_rfl)|((with_reducible (first|apply oE|apply oF));(iterate 3 exact rfl);all_goals (intro h;first|(exact absurd h (by decide))|((try simp only [go_sem,simprocAttr,hb] at h);(try with_reducible intro K hK);simp only [go_sem,simprocAttr,hb])))|((first|((with_reducible apply wL);exact rfl)|((with_reducible apply wM);exact rfl));all_goals (try ((with_reducible intro h);first|(exact absurd h (by decide))|(try simp only [go_sem,simprocAttr,hb] at h))))|omega|((first|first|(refine az hX hC hP [(10000,52)] (cz l) rfl rfl rfl ?_ ?_ ?_ ?_ ?_ ?_ ?_ ?_ ?_ ?_ ?_ ?_ ?_ ?_;(focus (simp only [go_sem,simprocAttr,hb];done));(iterate 12 (focus (simp [go_sem,simprocAttr,hb];done)));simp only [go_sem,simprocAttr,hb,List.map_cons,List.map_nil])|(refine aR hX hC hP [(10000,52)] (bY l hl) rfl rfl rfl ?_ ?_ ?_ ?_ ?_ ?_ rfl rfl ?_ ?_;(focus (simp only [go_sem,simprocAttr,hb];done));(iterate 6 (focus (simp [go_sem,simprocAttr,hb];done)));simp only [go_sem,simprocAttr,hb,List.map_cons,List.map_nil])|refine aa hX hC hP (ic g hm (x:Int)) rfl rfl rfl (by simp only [go_sem,simprocAttr,hb]) rfl ?_|refine aa hX hC hP (fE (gN l) (bp (·.1) g x) (by omega)) rfl rfl rfl (by simp only [go_sem,simprocAttr,hb]) rfl ?_);try simp only [go_sem,simprocAttr,hb])|(intro h))
end Go.Ab
end
