/- A part of the proof. -/
import Derived.Test.YtchjjbfhlchpfaaGreatL1P13
set_option linter.unusedSimpArgs false
set_option linter.unusedVariables false
section
namespace Go.Ab
open Go.Proofs
attribute [local congr] ACall.congr
set_option maxRecDepth 10000
set_option maxHeartbeats 4000000
theorem bk (ps:List Int) (x:Int) (hl:ps.length≤9223372036854775807):Spec Tryz.prog 165 (Args [.d (sI ps),eN x]) [] (eB (decide (x∈ps))) []:=by
 (refine Spec.intro (C:=T.cfg [] []) (rs:= [.t 4]) (T.ai _ _) Tryz.func165 rfl rfl Tryz.ntmps165 Tryz.results165 (by simp [AObj.isNest]) (by simp [AObj.isNest]) (by kernel_rfl) ?_;intro X hX hP hC aH aI vals hA;refine ⟨_,by simp,hA, ?_⟩;have af:X.P.follows .mixedOrders=true:=(by rw [hP];exact T.mixed);clear aH aI)
 repeat' (first|((first|((with_reducible (first|apply oA|apply oB));exact rfl;intro K hK)|(refine hK _ ?_;clear hK K)|((with_reducible (first|apply oG|apply oH));iterate 3 exact rfl)|((with_reducible apply oI);(iterate 2 exact rfl);intro K hK)|(with_reducible (first|apply wI|apply wJ|apply wK)));try simp only [go_sem,simprocAttr])|(with_reducible (first|apply oC|apply oJ|exact oK|apply wA|apply wB|apply wC hX hC|apply wD hX hC|apply wE hX hC af|apply wF hX hC af|apply wG|apply wH|apply And.intro))|((with_reducible refine oD ?_ ?_);kernel_rfl)|((with_reducible (first|apply oE|apply oF));(iterate 3 exact rfl);all_goals (intro h;first|(exact absurd h (by decide))|((try simp only [go_sem,simprocAttr] at h);(try with_reducible intro K hK);simp only [go_sem,simprocAttr])))|((first|((with_reducible apply wL);exact rfl)|((with_reducible apply wM);exact rfl));all_goals (try ((with_reducible intro h);first|(exact absurd h (by decide))|(try simp only [go_sem,simprocAttr] at h))))|omega|(intro h))
 refine aj (fun k:Nat=>k≤ps.length∧∀j,j<k→ps.getD j 0≠x) (fun k=>⟨[(0, .d (sI ps)),(1,eN x),(5,eN k)], []⟩) (fun k=>ps.length - k) 0 (by simp) ?_ ?_
 ·(refine ⟨bJ ?_,fun _ _ h=>h⟩;simp [go_sem,simprocAttr])
 rintro k ⟨hk,hg⟩
 rcases Nat.lt_or_ge k ps.length with hlt|hge
 ·have hb:decide ((k:Int)<(ps.length:Int))=true:=decide_eq_true (by omega)
  repeat' (first|((first|((with_reducible (first|apply oA|apply oB));exact rfl;intro K hK)|(refine hK _ ?_;clear hK K)|((with_reducible (first|apply oG|apply oH));iterate 3 exact rfl)|((with_reducible apply oI);(iterate 2 exact rfl);intro K hK)|(with_reducible (first|apply wI|apply wJ|apply wK)));try simp only [go_sem,simprocAttr,hb])|(with_reducible (first|apply oC|apply oJ|exact oK|apply wA|apply wB|apply wC hX hC|apply wD hX hC|apply wE hX hC af|apply wF hX hC af|apply wG|apply wH|apply And.intro))|((with_reducible refine oD ?_ ?_);kernel_rfl)|((with_reducible (first|apply oE|apply oF));(iterate 3 exact rfl);all_goals (intro h;first|(exact absurd h (by decide))|((try simp only [go_sem,simprocAttr,hb] at h);(try with_reducible intro K hK);simp only [go_sem,simprocAttr,hb])))|((first|((with_reducible apply wL);exact rfl)|((with_reducible apply wM);exact rfl));all_goals (try ((with_reducible intro h);first|(exact absurd h (by decide))|(try simp only [go_sem,simprocAttr,hb] at h))))|omega|(intro h))
  ·have hm:=bS (d:=0) hlt
   rw [h] at hm
   exact (decide_eq_true hm).symm
  ·refine ⟨k+1,⟨by omega,fun j hj=> ?_⟩, ?_,by omega⟩
   ·by_cases hjk:j=k
    ·subst hjk;assumption
    ·exact hg j (by omega)
   ·(refine ⟨bJ ?_,fun _ _ h=>h⟩;simp [go_sem,simprocAttr,hb])
 ·have hb:decide ((k:Int)<(ps.length:Int))=false:=decide_eq_false (by omega)
  repeat' (first|((first|((with_reducible (first|apply oA|apply oB));exact rfl;intro K hK)|(refine hK _ ?_;clear hK K)|((with_reducible (first|apply oG|apply oH));iterate 3 exact rfl)|((with_reducible apply oI);(iterate 2 exact rfl);intro K hK)|(with_reducible (first|apply wI|apply wJ|apply wK)));try simp only [go_sem,simprocAttr,hb])|(with_reducible (first|apply oC|apply oJ|exact oK|apply wA|apply wB|apply wC hX hC|apply wD hX hC|apply wE hX hC af|apply wF hX hC af|apply wG|apply wH|apply And.intro))|((with_reducible refine oD ?_ ?_);kernel_rfl)|((with_reducible (first|apply oE|apply oF));(iterate 3 exact rfl);all_goals (intro h;first|(exact absurd h (by decide))|((try simp only [go_sem,simprocAttr,hb] at h);(try with_reducible intro K hK);simp only [go_sem,simprocAttr,hb])))|((first|((with_reducible apply wL);exact rfl)|((with_reducible apply wM);exact rfl));all_goals (try ((with_reducible intro h);first|(exact absurd h (by decide))|(try simp only [go_sem,simprocAttr,hb] at h))))|omega|(intro h))
  refine (decide_eq_false fun hm=> ?_).symm
  obtain ⟨j,hj,hx⟩:=List.mem_iff_getElem.1 hm
  exact hg j (by omega) (by rw [List.getD_eq_getElem?_getD,List.getElem?_eq_getElem hj];exact hx)
def eV (g:Gr) (f:Fr):List AV:= [eN g.n, .d (sE g.es), .d (sT f.row), .d (sI f.pl)]
def fz (row:List It) (x:Int):Nat→Int
 |0=>0
 |k+1=>if (row.getD k (0,0,0)).2.2=x then fz row x k+1 else fz row x k
theorem dY {row:List It} {x:Int} {k:Nat} :fz row x (k+1)=if (row.getD k (0,0,0)).2.2=x then fz row x k+1 else fz row x k:=rfl
theorem zg {row:List It} {x:Int} :∀k:Nat,0≤fz row x k∧fz row x k≤k
 |0=>by simp [fz]
 |k+1=>by
  have:=zg (row:=row) (x:=x) k
  rw [dY]
  split<;>omega
def rC (row:List It) (x:Int) (need:Nat) (j:Nat):Bool:=decide ((row.getD j (0,0,0)).2.2≠x)&&decide (0≤(row.getD j (0,0,0)).1)&&decide (0<fz row x j)&&decide (fz row x j<need)
theorem lE {row:List It} {x:Int} {need j:Nat} :rC row x need j=true↔((row.getD j (0,0,0)).2.2≠x∧0≤(row.getD j (0,0,0)).1)∧0<fz row x j∧fz row x j<need:=by
 simp only [rC,Bool.and_eq_true,decide_eq_true_eq,and_assoc]
def bf (g:Gr) (x:Int):Nat:=(aZ (·.2) g.es g.es.length x).length
def aq (g:Gr) (f:Fr) (x:Int):Bool:=
 if x<0∨g.n≤x∨x∈f.pl then false else if bf g x=0 then true else
 !(List.range f.row.length).any (rC f.row x (bf g x))&&decide (fz f.row x f.row.length=bf g x)
theorem iG:jZ false=(fun e:Edge=>e.2):=rfl
theorem ez:jZ true=(fun e:Edge=>e.1):=rfl
theorem D4 {n j:Nat} {p:Nat→Bool} (h:j<n) (hp:p j=true):(List.range n).any p=true:=List.any_eq_true.2 ⟨j,List.mem_range.2 h,hp⟩
theorem D5 {n:Nat} {p:Nat→Bool} (h:∀j,j<n→p j=false):(List.range n).any p=false:=by
 rw [List.any_eq_false]
 intro j hj
 rw [h j (List.mem_range.1 hj)];simp
theorem bz (g:Gr) (hl:g.es.length≤1000) (f:Fr) (x:Int) (hr:f.row.length≤1000000) (fA:f.pl.length≤1000000):Spec Tryz.prog 164 (Args [.ptr 10000 0,eN x]) [(10000, .rob (eV g f))] (eB (aq g f x)) [(10000, .rob (eV g f))]:=by
 have hp:f.pl.length≤9223372036854775807:=by omega
 unfold eV
 by_cases hx:x<0∨g.n≤x∨x∈f.pl
 ·have hR:aq g f x=false:=if_pos hx
  (refine Spec.intro (C:=T.cfg [] []) (rs:= [.t 4]) (T.ai _ _) Tryz.func164 rfl rfl Tryz.ntmps164 Tryz.results164 (by simp [AObj.isNest]) (by simp [AObj.isNest]) (by kernel_rfl) ?_;intro X hX hP hC aH aI vals hA;refine ⟨_,by simp,hA, ?_⟩;have af:X.P.follows .mixedOrders=true:=(by rw [hP];exact T.mixed);clear aH aI)
  by_cases h1:x<0
  ·have ak:decide (x<0)=true:=decide_eq_true h1
   repeat' (first|((first|((with_reducible (first|apply oA|apply oB));exact rfl;intro K hK)|(refine hK _ ?_;clear hK K)|((with_reducible (first|apply oG|apply oH));iterate 3 exact rfl)|((with_reducible apply oI);(iterate 2 exact rfl);intro K hK)|(with_reducible (first|apply wI|apply wJ|apply wK)));try simp only [go_sem,simprocAttr,hR,ak])|(with_reducible (first|apply oC|apply oJ|exact oK|apply wA|apply wB|apply wC hX hC|apply wD hX hC|apply wE hX hC af|apply wF hX hC af|apply wG|apply wH|apply And.intro))|((with_reducible refine oD ?_ ?_);kernel_rfl)|((with_reducible (first|apply oE|apply oF));(iterate 3 exact rfl);all_goals (intro h;first|(exact absurd h (by decide))|((try simp only [go_sem,simprocAttr,hR,ak] at h);(try with_reducible intro K hK);simp only [go_sem,simprocAttr,hR,ak])))|((first|((with_reducible apply wL);exact rfl)|((with_reducible apply wM);exact rfl));all_goals (try ((with_reducible intro h);first|(exact absurd h (by decide))|(try simp only [go_sem,simprocAttr,hR,ak] at h))))|omega|((first|refine aa hX hC hP (bk f.pl x hp) rfl rfl rfl (by simp only [go_sem,simprocAttr,hR,ak]) rfl ?_|refine aa hX hC hP (aW g x false hl) rfl rfl rfl (by simp only [go_sem,simprocAttr,hR,ak]) rfl ?_);try simp only [go_sem,simprocAttr,hR,ak])|(intro h))
  have ak:decide (x<0)=false:=decide_eq_false h1
  by_cases h2:g.n≤x
  ·have an:decide (g.n≤x)=true:=decide_eq_true h2
   repeat' (first|((first|((with_reducible (first|apply oA|apply oB));exact rfl;intro K hK)|(refine hK _ ?_;clear hK K)|((with_reducible (first|apply oG|apply oH));iterate 3 exact rfl)|((with_reducible apply oI);(iterate 2 exact rfl);intro K hK)|(with_reducible (first|apply wI|apply wJ|apply wK)));try simp only [go_sem,simprocAttr,hR,ak,an])|(with_reducible (first|apply oC|apply oJ|exact oK|apply wA|apply wB|apply wC hX hC|apply wD hX hC|apply wE hX hC af|apply wF hX hC af|apply wG|apply wH|apply And.intro))|((with_reducible refine oD ?_ ?_);kernel_rfl)|((with_reducible (first|apply oE|apply oF));(iterate 3 exact rfl);all_goals (intro h;first|(exact absurd h (by decide))|((try simp only [go_sem,simprocAttr,hR,ak,an] at h);(try with_reducible intro K hK);simp only [go_sem,simprocAttr,hR,ak,an])))|((first|((with_reducible apply wL);exact rfl)|((with_reducible apply wM);exact rfl));all_goals (try ((with_reducible intro h);first|(exact absurd h (by decide))|(try simp only [go_sem,simprocAttr,hR,ak,an] at h))))|omega|((first|refine aa hX hC hP (bk f.pl x hp) rfl rfl rfl (by simp only [go_sem,simprocAttr,hR,ak,an]) rfl ?_|refine aa hX hC hP (aW g x false hl) rfl rfl rfl (by simp only [go_sem,simprocAttr,hR,ak,an]) rfl ?_);try simp only [go_sem,simprocAttr,hR,ak,an])|(intro h))
  have an:decide (g.n≤x)=false:=decide_eq_false h2
  have h3:x∈f.pl:=by rcases hx with h|h|h;exact absurd h h1;exact absurd h h2;exact h
  have bu:decide (x∈f.pl)=true:=decide_eq_true h3
  repeat' (first|((first|((with_reducible (first|apply oA|apply oB));exact rfl;intro K hK)|(refine hK _ ?_;clear hK K)|((with_reducible (first|apply oG|apply oH));iterate 3 exact rfl)|((with_reducible apply oI);(iterate 2 exact rfl);intro K hK)|(with_reducible (first|apply wI|apply wJ|apply wK)));try simp only [go_sem,simprocAttr,hR,ak,an,bu])|(with_reducible (first|apply oC|apply oJ|exact oK|apply wA|apply wB|apply wC hX hC|apply wD hX hC|apply wE hX hC af|apply wF hX hC af|apply wG|apply wH|apply And.intro))|((with_reducible refine oD ?_ ?_);kernel_rfl)|((with_reducible (first|apply oE|apply oF));(iterate 3 exact rfl);all_goals (intro h;first|(exact absurd h (by decide))|((try simp only [go_sem,simprocAttr,hR,ak,an,bu] at h);(try with_reducible intro K hK);simp only [go_sem,simprocAttr,hR,ak,an,bu])))|((first|((with_reducible apply wL);exact rfl)|((with_reducible apply wM);exact rfl));all_goals (try ((with_reducible intro h);first|(exact absurd h (by decide))|(try simp only [go_sem,simprocAttr,hR,ak,an,bu] at h))))|omega|((first|refine aa hX hC hP (bk f.pl x hp) rfl rfl rfl (by simp only [go_sem,simprocAttr,hR,ak,an,bu]) rfl ?_|refine aa hX hC hP (aW g x false hl) rfl rfl rfl (by simp only [go_sem,simprocAttr,hR,ak,an,bu]) rfl ?_);try simp only [go_sem,simprocAttr,hR,ak,an,bu])|(intro h))
 ·have ak:decide (x<0)=false:=decide_eq_false fun h=>hx (.inl h)
  have an:decide (g.n≤x)=false:=decide_eq_false fun h=>hx (.inr (.inl h))
  have bu:decide (x∈f.pl)=false:=decide_eq_false fun h=>hx (.inr (.inr h))
  have hR:aq g f x=if bf g x=0 then true else !(List.range f.row.length).any (rC f.row x (bf g x))&&decide (fz f.row x f.row.length=bf g x):=if_neg hx
  have cg:(aZ (·.2) g.es g.es.length x).length=bf g x:=rfl
  have hnl:bf g x≤1000:=Nat.le_trans jx hl
  generalize bf g x=need at hR cg hnl
  by_cases h4:need=0
  ·have hb4:decide ((need:Int)=0)=true:=decide_eq_true (by omega)
   rw [if_pos h4] at hR
   (refine Spec.intro (C:=T.cfg [] []) (rs:= [.t 4]) (T.ai _ _) Tryz.func164 rfl rfl Tryz.ntmps164 Tryz.results164 (by simp [AObj.isNest]) (by simp [AObj.isNest]) (by kernel_rfl) ?_;intro X hX hP hC aH aI vals hA;refine ⟨_,by simp,hA, ?_⟩;have af:X.P.follows .mixedOrders=true:=(by rw [hP];exact T.mixed);clear aH aI)
   repeat' (first|((first|((with_reducible (first|apply oA|apply oB));exact rfl;intro K hK)|(refine hK _ ?_;clear hK K)|((with_reducible (first|apply oG|apply oH));iterate 3 exact rfl)|((with_reducible apply oI);(iterate 2 exact rfl);intro K hK)|(with_reducible (first|apply wI|apply wJ|apply wK)));try simp only [go_sem,simprocAttr,hR,ak,an,bu,hb4,iG,cg])|(with_reducible (first|apply oC|apply oJ|exact oK|apply wA|apply wB|apply wC hX hC|apply wD hX hC|apply wE hX hC af|apply wF hX hC af|apply wG|apply wH|apply And.intro))|((with_reducible refine oD ?_ ?_);kernel_rfl)|((with_reducible (first|apply oE|apply oF));(iterate 3 exact rfl);all_goals (intro h;first|(exact absurd h (by decide))|((try simp only [go_sem,simprocAttr,hR,ak,an,bu,hb4,iG,cg] at h);(try with_reducible intro K hK);simp only [go_sem,simprocAttr,hR,ak,an,bu,hb4,iG,cg])))|((first|((with_reducible apply wL);exact rfl)|((with_reducible apply wM);exact rfl));all_goals (try ((with_reducible intro h);first|(exact absurd h (by decide))|(try simp only [go_sem,simprocAttr,hR,ak,an,bu,hb4,iG,cg] at h))))|omega|((first|refine aa hX hC hP (bk f.pl x hp) rfl rfl rfl (by simp only [go_sem,simprocAttr,hR,ak,an,bu,hb4,iG,cg]) rfl ?_|refine aa hX hC hP (aW g x false hl) rfl rfl rfl (by simp only [go_sem,simprocAttr,hR,ak,an,bu,hb4,iG,cg]) rfl ?_);try simp only [go_sem,simprocAttr,hR,ak,an,bu,hb4,iG,cg])|(intro h))
  ·have hb4:decide ((need:Int)=0)=false:=decide_eq_false (by omega)
   rw [if_neg h4] at hR
   generalize aq g f x=res at hR
   (refine Spec.intro (C:=T.cfg [] []) (rs:= [.t 4]) (T.ai _ _) Tryz.func164 rfl rfl Tryz.ntmps164 Tryz.results164 (by simp [AObj.isNest]) (by simp [AObj.isNest]) (by kernel_rfl) ?_;intro X hX hP hC aH aI vals hA;refine ⟨_,by simp,hA, ?_⟩;have af:X.P.follows .mixedOrders=true:=(by rw [hP];exact T.mixed);clear aH aI)
   repeat' (first|((first|((with_reducible (first|apply oA|apply oB));exact rfl;intro K hK)|(refine hK _ ?_;clear hK K)|((with_reducible (first|apply oG|apply oH));iterate 3 exact rfl)|((with_reducible apply oI);(iterate 2 exact rfl);intro K hK)|(with_reducible (first|apply wI|apply wJ|apply wK)));try simp only [go_sem,simprocAttr,ak,an,bu,hb4,iG,cg])|(with_reducible (first|apply oC|apply oJ|exact oK|apply wA|apply wB|apply wC hX hC|apply wD hX hC|apply wE hX hC af|apply wF hX hC af|apply wG|apply wH|apply And.intro))|((with_reducible refine oD ?_ ?_);kernel_rfl)|((with_reducible (first|apply oE|apply oF));(iterate 3 exact rfl);all_goals (intro h;first|(exact absurd h (by decide))|((try simp only [go_sem,simprocAttr,ak,an,bu,hb4,iG,cg] at h);(try with_reducible intro K hK);simp only [go_sem,simprocAttr,ak,an,bu,hb4,iG,cg])))|((first|((with_reducible apply wL);exact rfl)|((with_reducible apply wM);exact rfl));all_goals (try ((with_reducible intro h);first|(exact absurd h (by decide))|(try simp only [go_sem,simprocAttr,ak,an,bu,hb4,iG,cg] at h))))|omega|((first|refine aa hX hC hP (bk f.pl x hp) rfl rfl rfl (by simp only [go_sem,simprocAttr,ak,an,bu,hb4,iG,cg]) rfl ?_|refine aa hX hC hP (aW g x false hl) rfl rfl rfl (by simp only [go_sem,simprocAttr,ak,an,bu,hb4,iG,cg]) rfl ?_);try simp only [go_sem,simprocAttr,ak,an,bu,hb4,iG,cg])|(intro h))
   refine aj (fun k:Nat=>k≤f.row.length∧∀j,j<k→rC f.row x need j=false) (fun k=>⟨[(0, .ptr 10000 0),(1,eN x),(5,eN need),(6,eN (fz f.row x k)),(7,eN k)], [(10000, .rob [eN g.n, .d (sE g.es), .d (sT f.row), .d (sI f.pl)])]⟩) (fun k=>f.row.length - k) 0 (by simp) ?_ ?_
   ·refine Le.of ?_ ?_<;>simp [go_sem,simprocAttr,ak,an,bu,hb4,iG,cg,fz]
   rintro k ⟨hk,hg⟩
   rcases Nat.lt_or_ge k f.row.length with hlt|hge
   ·have hb:decide ((k:Int)<(f.row.length:Int))=true:=decide_eq_true (by omega)
    have hmk:=zg (row:=f.row) (x:=x) k
    have c7:=dY (row:=f.row) (x:=x) (k:=k)
    have step:rC f.row x need k=false→∀j,j<k+1→rC f.row x need j=false:=fun h j hj=>by
     by_cases hjk:j=k
     ·subst hjk;exact h
     ·exact hg j (by omega)
    repeat' (first|((first|((with_reducible (first|apply oA|apply oB));exact rfl;intro K hK)|(refine hK _ ?_;clear hK K)|((with_reducible (first|apply oG|apply oH));iterate 3 exact rfl)|((with_reducible apply oI);(iterate 2 exact rfl);intro K hK)|(with_reducible (first|apply wI|apply wJ|apply wK)));try simp only [go_sem,simprocAttr,hb])|(with_reducible (first|apply oC|apply oJ|exact oK|apply wA|apply wB|apply wC hX hC|apply wD hX hC|apply wE hX hC af|apply wF hX hC af|apply wG|apply wH|apply And.intro))|((with_reducible refine oD ?_ ?_);kernel_rfl)|((with_reducible (first|apply oE|apply oF));(iterate 3 exact rfl);all_goals (intro h;first|(exact absurd h (by decide))|((try simp only [go_sem,simprocAttr,hb] at h);(try with_reducible intro K hK);simp only [go_sem,simprocAttr,hb])))|((first|((with_reducible apply wL);exact rfl)|((with_reducible apply wM);exact rfl));all_goals (try ((with_reducible intro h);first|(exact absurd h (by decide))|(try simp only [go_sem,simprocAttr,hb] at h))))|omega|((first|refine aa hX hC hP (bk f.pl x hp) rfl rfl rfl (by simp only [go_sem,simprocAttr,hb]) rfl ?_|refine aa hX hC hP (aW g x false hl) rfl rfl rfl (by simp only [go_sem,simprocAttr,hb]) rfl ?_);try simp only [go_sem,simprocAttr,hb])|(intro h))
    all_goals (first|(rw [hR,D4 hlt (lE.2 ⟨⟨by assumption,by assumption⟩,by assumption,by assumption⟩)];rfl)|skip)
    all_goals (first|rw [if_neg (by assumption)] at c7|rw [if_pos (by assumption)] at c7)
    all_goals (refine ⟨k+1,⟨by omega,step (by rw [← Bool.not_eq_true];intro hh;obtain ⟨⟨_,_⟩,_,_⟩:=lE.1 hh;contradiction)⟩, ?_,by omega⟩;refine Le.of ?_ ?_<;>simp [go_sem,simprocAttr,hb,c7])
   ·have hb:decide ((k:Int)<(f.row.length:Int))=false:=decide_eq_false (by omega)
    obtain rfl:k=f.row.length:=by omega
    rw [D5 hg] at hR
    repeat' (first|((first|((with_reducible (first|apply oA|apply oB));exact rfl;intro K hK)|(refine hK _ ?_;clear hK K)|((with_reducible (first|apply oG|apply oH));iterate 3 exact rfl)|((with_reducible apply oI);(iterate 2 exact rfl);intro K hK)|(with_reducible (first|apply wI|apply wJ|apply wK)));try simp only [go_sem,simprocAttr,hb,hR])|(with_reducible (first|apply oC|apply oJ|exact oK|apply wA|apply wB|apply wC hX hC|apply wD hX hC|apply wE hX hC af|apply wF hX hC af|apply wG|apply wH|apply And.intro))|((with_reducible refine oD ?_ ?_);kernel_rfl)|((with_reducible (first|apply oE|apply oF));(iterate 3 exact rfl);all_goals (intro h;first|(exact absurd h (by decide))|((try simp only [go_sem,simprocAttr,hb,hR] at h);(try with_reducible intro K hK);simp only [go_sem,simprocAttr,hb,hR])))|((first|((with_reducible apply wL);exact rfl)|((with_reducible apply wM);exact rfl));all_goals (try ((with_reducible intro h);first|(exact absurd h (by decide))|(try simp only [go_sem,simprocAttr,hb,hR] at h))))|omega|((first|refine aa hX hC hP (bk f.pl x hp) rfl rfl rfl (by simp only [go_sem,simprocAttr,hb,hR]) rfl ?_|refine aa hX hC hP (aW g x false hl) rfl rfl rfl (by simp only [go_sem,simprocAttr,hb,hR]) rfl ?_);try simp only [go_sem,simprocAttr,hb,hR])|(intro h))
end Go.Ab
end
section
namespace Go.Ab
open Go.Proofs
attribute [local congr] ACall.congr
set_option maxRecDepth 10000
set_option maxHeartbeats 4000000
end Go.Ab
end
section
namespace Go.Ab
open Go.Proofs
attribute [local congr] ACall.congr
set_option maxRecDepth 10000
set_option maxHeartbeats 8000000
def bw (g:Gr) (x:Int):List Int:=aZ (·.1) g.es g.es.length x
def au (g:Gr) (f:Fr) (x:Int) (outs:List Int):(List It × Int) × Fr:=
 (((f.row.take (aV f.row x).2.1.toNat).drop (max (aV f.row x).1 0).toNat,0),⟨f.row.take (max (aV f.row x).1 0).toNat++aM g x outs++f.row.drop (aV f.row x).2.1.toNat,f.pl++ [x]⟩)
def cx (g:Gr) (f:Fr) (x:Int) (outs:List Int):(List It × Int) × Fr:=
 if aq g f x=false then (([],3),f) else
 if outs.length≠(bw g x).length∨∃i∈bw g x,i∉outs then (([],1),f) else au g f x outs
theorem dw {f:Edge→Int} {es:List Edge} {k:Nat} {x:Int} :(aZ f es k x).Nodup:=by
 unfold aZ
 exact List.Pairwise.map _ (fun a b h e=>h (Int.ofNat.inj e)) (List.Pairwise.filter _ List.nodup_range)
theorem u5:∀ {ms os:List Int},ms.Nodup→(∀i∈ms,i∈os)→os.length=ms.length→∀i∈os,i∈ms
 | [],os,_,_,hl,i,hi=>by
   have:os= []:=List.eq_nil_of_length_eq_zero (by simpa using hl)
   rw [this] at hi;exact hi
 |m::ms,os,hn,hs,hl,i,hi=>by
  rw [List.nodup_cons] at hn
  have hm:=hs m (List.mem_cons_self ..)
  by_cases h:i=m
  ·rw [h];exact List.mem_cons_self ..
  ·refine List.mem_cons_of_mem _ (u5 hn.2 (os:=os.erase m) (fun j hj=> ?_) ?_ i ?_)
   ·have:j≠m:=fun e=>hn.1 (e ▸ hj)
    exact (List.mem_erase_of_ne this).2 (hs j (List.mem_cons_of_mem _ hj))
   ·rw [List.length_erase_of_mem hm,hl];simp
   ·exact (List.mem_erase_of_ne h).2 hi
theorem wW {g:Gr} {x:Int} :(bw g x).length≤g.es.length:=jx
theorem wX (g:Gr) (hl:g.es.length≤1000) (f:Fr) (x:Int) (outs:List Int) (hr:f.row.length≤300000) (hp:f.pl.length≤100000) (ho:outs.length≤9223372036854775807):
 Spec Tryz.prog 111 (Args [.ptr 10000 0,eN x, .d (sI outs)]) [(10000, .box (eV g f))] (.tup [.d (sT (cx g f x outs).1.1),eN (cx g f x outs).1.2]) [(10000, .box (eV g (cx g f x outs).2))]:=by
 have iW:f.row.length≤1000000:=by omega
 have hp1:f.pl.length≤1000000:=by omega
 have sx:outs.length≤9223372036854775807:=by omega
 have hml:=wW (g:=g) (x:=x)
 have qk:aZ (fun e=>e.1) g.es g.es.length x=bw g x:=rfl
 cases hR:aq g f x with
 |false=>
  have hP:cx g f x outs=(([],3),f):=if_pos hR
  rw [hP]
  unfold eV
  (refine Spec.intro (C:=T.cfg [] []) (rs:= [.t 6, .t 7]) (T.ai _ _) Tryz.func111 rfl rfl Tryz.ntmps111 Tryz.results111 (by simp [AObj.isNest]) (by simp [AObj.isNest]) (by kernel_rfl) ?_;intro X hX hP hC aH aI vals hA;refine ⟨_,by simp,hA, ?_⟩;have af:X.P.follows .mixedOrders=true:=(by rw [hP];exact T.mixed);clear aH aI)
  repeat' (first|((first|((with_reducible (first|apply oA|apply oB));exact rfl;intro K hK)|(refine hK _ ?_;clear hK K)|((with_reducible (first|apply oG|apply oH));iterate 3 exact rfl)|((with_reducible apply oI);(iterate 2 exact rfl);intro K hK)|(with_reducible (first|apply wI|apply wJ|apply wK)));try simp only [go_sem,simprocAttr,hR,eV])|(with_reducible (first|apply oC|apply oJ|exact oK|apply wA|apply wB|apply wC hX hC|apply wD hX hC|apply wE hX hC af|apply wF hX hC af|apply wG|apply wH|apply And.intro))|((with_reducible refine oD ?_ ?_);kernel_rfl)|((with_reducible (first|apply oE|apply oF));(iterate 3 exact rfl);all_goals (intro h;first|(exact absurd h (by decide))|((try simp only [go_sem,simprocAttr,hR,eV] at h);(try with_reducible intro K hK);simp only [go_sem,simprocAttr,hR,eV])))|((first|((with_reducible apply wL);exact rfl)|((with_reducible apply wM);exact rfl));all_goals (try ((with_reducible intro h);first|(exact absurd h (by decide))|(try simp only [go_sem,simprocAttr,hR,eV] at h))))|omega|((first|(refine aE hX hC hP [(10000,10000)] (bz g hl f x iW hp1) rfl rfl rfl ?_ ?_ ?_ ?_ ?_ ?_ rfl rfl ?_ ?_;(focus (simp only [go_sem,simprocAttr,hR,eV];done));(iterate 6 (focus (simp [go_sem,simprocAttr,hR,eV];done)));simp only [go_sem,simprocAttr,hR,eV,List.map_cons,List.map_nil])|refine aa hX hC hP (aW g x true hl) rfl rfl rfl (by simp only [go_sem,simprocAttr,hR,eV]) rfl ?_|refine aa hX hC hP (bk outs ((bw g x).getD k 0) sx) rfl rfl rfl (by simp only [go_sem,simprocAttr,hR,eV]) rfl ?_);try simp only [go_sem,simprocAttr,hR,eV])|(intro h))
 |true=>
 have FL:¬aq g f x=false:=by rw [hR];simp
 by_cases hlen:outs.length≠(bw g x).length
 ·have hP:cx g f x outs=(([],1),f):=by unfold cx;rw [if_neg FL,if_pos (.inl hlen)]
  have ak:decide ((outs.length:Int)=((bw g x).length:Int))=false:=decide_eq_false (by omega)
  rw [hP]
  unfold eV
  (refine Spec.intro (C:=T.cfg [] []) (rs:= [.t 6, .t 7]) (T.ai _ _) Tryz.func111 rfl rfl Tryz.ntmps111 Tryz.results111 (by simp [AObj.isNest]) (by simp [AObj.isNest]) (by kernel_rfl) ?_;intro X hX hP hC aH aI vals hA;refine ⟨_,by simp,hA, ?_⟩;have af:X.P.follows .mixedOrders=true:=(by rw [hP];exact T.mixed);clear aH aI)
  repeat' (first|((first|((with_reducible (first|apply oA|apply oB));exact rfl;intro K hK)|(refine hK _ ?_;clear hK K)|((with_reducible (first|apply oG|apply oH));iterate 3 exact rfl)|((with_reducible apply oI);(iterate 2 exact rfl);intro K hK)|(with_reducible (first|apply wI|apply wJ|apply wK)));try simp only [go_sem,simprocAttr,hR,eV,ez,qk,ak])|(with_reducible (first|apply oC|apply oJ|exact oK|apply wA|apply wB|apply wC hX hC|apply wD hX hC|apply wE hX hC af|apply wF hX hC af|apply wG|apply wH|apply And.intro))|((with_reducible refine oD ?_ ?_);kernel_rfl)|((with_reducible (first|apply oE|apply oF));(iterate 3 exact rfl);all_goals (intro h;first|(exact absurd h (by decide))|((try simp only [go_sem,simprocAttr,hR,eV,ez,qk,ak] at h);(try with_reducible intro K hK);simp only [go_sem,simprocAttr,hR,eV,ez,qk,ak])))|((first|((with_reducible apply wL);exact rfl)|((with_reducible apply wM);exact rfl));all_goals (try ((with_reducible intro h);first|(exact absurd h (by decide))|(try simp only [go_sem,simprocAttr,hR,eV,ez,qk,ak] at h))))|omega|((first|(refine aE hX hC hP [(10000,10000)] (bz g hl f x iW hp1) rfl rfl rfl ?_ ?_ ?_ ?_ ?_ ?_ rfl rfl ?_ ?_;(focus (simp only [go_sem,simprocAttr,hR,eV,ez,qk,ak];done));(iterate 6 (focus (simp [go_sem,simprocAttr,hR,eV,ez,qk,ak];done)));simp only [go_sem,simprocAttr,hR,eV,ez,qk,ak,List.map_cons,List.map_nil])|refine aa hX hC hP (aW g x true hl) rfl rfl rfl (by simp only [go_sem,simprocAttr,hR,eV,ez,qk,ak]) rfl ?_|refine aa hX hC hP (bk outs ((bw g x).getD k 0) sx) rfl rfl rfl (by simp only [go_sem,simprocAttr,hR,eV,ez,qk,ak]) rfl ?_);try simp only [go_sem,simprocAttr,hR,eV,ez,qk,ak])|(intro h))
 rw [ne_eq,Decidable.not_not] at hlen
 have ak:decide ((outs.length:Int)=((bw g x).length:Int))=true:=decide_eq_true (by omega)
 have hP:cx g f x outs=if ∃i∈bw g x,i∉outs then (([],1),f) else au g f x outs:=by
  unfold cx
  rw [if_neg FL]
  by_cases hE:∃i∈bw g x,i∉outs
  ·rw [if_pos (.inr hE),if_pos hE]
  ·rw [if_neg (fun h=>by rcases h with h|h;exact h hlen;exact hE h),if_neg hE]
 rw [hP]
 generalize F0:(if ∃i∈bw g x,i∉outs then (([],1),f) else au g f x outs:(List It × Int) × Fr)=pp
 unfold eV
 (refine Spec.intro (C:=T.cfg [] []) (rs:= [.t 6, .t 7]) (T.ai _ _) Tryz.func111 rfl rfl Tryz.ntmps111 Tryz.results111 (by simp [AObj.isNest]) (by simp [AObj.isNest]) (by kernel_rfl) ?_;intro X hX hP hC aH aI vals hA;refine ⟨_,by simp,hA, ?_⟩;have af:X.P.follows .mixedOrders=true:=(by rw [hP];exact T.mixed);clear aH aI)
 repeat' (first|((first|((with_reducible (first|apply oA|apply oB));exact rfl;intro K hK)|(refine hK _ ?_;clear hK K)|((with_reducible (first|apply oG|apply oH));iterate 3 exact rfl)|((with_reducible apply oI);(iterate 2 exact rfl);intro K hK)|(with_reducible (first|apply wI|apply wJ|apply wK)));try simp only [go_sem,simprocAttr,hR,eV,ez,qk,ak])|(with_reducible (first|apply oC|apply oJ|exact oK|apply wA|apply wB|apply wC hX hC|apply wD hX hC|apply wE hX hC af|apply wF hX hC af|apply wG|apply wH|apply And.intro))|((with_reducible refine oD ?_ ?_);kernel_rfl)|((with_reducible (first|apply oE|apply oF));(iterate 3 exact rfl);all_goals (intro h;first|(exact absurd h (by decide))|((try simp only [go_sem,simprocAttr,hR,eV,ez,qk,ak] at h);(try with_reducible intro K hK);simp only [go_sem,simprocAttr,hR,eV,ez,qk,ak])))|((first|((with_reducible apply wL);exact rfl)|((with_reducible apply wM);exact rfl));all_goals (try ((with_reducible intro h);first|(exact absurd h (by decide))|(try simp only [go_sem,simprocAttr,hR,eV,ez,qk,ak] at h))))|omega|((first|(refine aE hX hC hP [(10000,10000)] (bz g hl f x iW hp1) rfl rfl rfl ?_ ?_ ?_ ?_ ?_ ?_ rfl rfl ?_ ?_;(focus (simp only [go_sem,simprocAttr,hR,eV,ez,qk,ak];done));(iterate 6 (focus (simp [go_sem,simprocAttr,hR,eV,ez,qk,ak];done)));simp only [go_sem,simprocAttr,hR,eV,ez,qk,ak,List.map_cons,List.map_nil])|refine aa hX hC hP (aW g x true hl) rfl rfl rfl (by simp only [go_sem,simprocAttr,hR,eV,ez,qk,ak]) rfl ?_|refine aa hX hC hP (bk outs ((bw g x).getD k 0) sx) rfl rfl rfl (by simp only [go_sem,simprocAttr,hR,eV,ez,qk,ak]) rfl ?_);try simp only [go_sem,simprocAttr,hR,eV,ez,qk,ak])|(intro h))
 refine aj (fun k:Nat=>k≤(bw g x).length∧∀j,j<k→(bw g x).getD j 0∈outs) (fun k=>⟨[(0, .ptr 10000 0),(1,eN x),(2, .d (sI outs)),(8, .d (sI (bw g x))),(9,eN k)], [(10000, .box [eN g.n, .d (sE g.es), .d (sT f.row), .d (sI f.pl)])]⟩) (fun k=>(bw g x).length - k) 0 (by simp) ?_ ?_
 ·(refine Le.of ?_ ?_<;>simp [go_sem,simprocAttr,hR,eV,ez,qk,ak])
 rintro k ⟨hk,hg⟩
 rcases Nat.lt_or_ge k (bw g x).length with hlt|hge
 ·have hb:decide ((k:Int)<((bw g x).length:Int))=true:=decide_eq_true (by omega)
  by_cases hin:(bw g x).getD k 0∈outs
  ·have an:decide ((bw g x).getD k 0∈outs)=true:=decide_eq_true hin
   repeat' (first|((first|((with_reducible (first|apply oA|apply oB));exact rfl;intro K hK)|(refine hK _ ?_;clear hK K)|((with_reducible (first|apply oG|apply oH));iterate 3 exact rfl)|((with_reducible apply oI);(iterate 2 exact rfl);intro K hK)|(with_reducible (first|apply wI|apply wJ|apply wK)));try simp only [go_sem,simprocAttr,hb,an])|(with_reducible (first|apply oC|apply oJ|exact oK|apply wA|apply wB|apply wC hX hC|apply wD hX hC|apply wE hX hC af|apply wF hX hC af|apply wG|apply wH|apply And.intro))|((with_reducible refine oD ?_ ?_);kernel_rfl)|((with_reducible (first|apply oE|apply oF));(iterate 3 exact rfl);all_goals (intro h;first|(exact absurd h (by decide))|((try simp only [go_sem,simprocAttr,hb,an] at h);(try with_reducible intro K hK);simp only [go_sem,simprocAttr,hb,an])))|((first|((with_reducible apply wL);exact rfl)|((with_reducible apply wM);exact rfl));all_goals (try ((with_reducible intro h);first|(exact absurd h (by decide))|(try simp only [go_sem,simprocAttr,hb,an] at h))))|omega|((first|(refine aE hX hC hP [(10000,10000)] (bz g hl f x iW hp1) rfl rfl rfl ?_ ?_ ?_ ?_ ?_ ?_ rfl rfl ?_ ?_;(focus (simp only [go_sem,simprocAttr,hb,an];done));(iterate 6 (focus (simp [go_sem,simprocAttr,hb,an];done)));simp only [go_sem,simprocAttr,hb,an,List.map_cons,List.map_nil])|refine aa hX hC hP (aW g x true hl) rfl rfl rfl (by simp only [go_sem,simprocAttr,hb,an]) rfl ?_|refine aa hX hC hP (bk outs ((bw g x).getD k 0) sx) rfl rfl rfl (by simp only [go_sem,simprocAttr,hb,an]) rfl ?_);try simp only [go_sem,simprocAttr,hb,an])|(intro h))
   refine ⟨k+1,⟨by omega,fun j hj=> ?_⟩, ?_,by omega⟩
   ·by_cases hjk:j=k
    ·subst hjk;exact hin
    ·exact hg j (by omega)
   ·(refine Le.of ?_ ?_<;>simp [go_sem,simprocAttr,hb,an])
  ·have an:decide ((bw g x).getD k 0∈outs)=false:=decide_eq_false hin
   rw [if_pos ⟨_,bS (d:=0) hlt,hin⟩] at F0
   subst F0
   repeat' (first|((first|((with_reducible (first|apply oA|apply oB));exact rfl;intro K hK)|(refine hK _ ?_;clear hK K)|((with_reducible (first|apply oG|apply oH));iterate 3 exact rfl)|((with_reducible apply oI);(iterate 2 exact rfl);intro K hK)|(with_reducible (first|apply wI|apply wJ|apply wK)));try simp only [go_sem,simprocAttr,hb,an])|(with_reducible (first|apply oC|apply oJ|exact oK|apply wA|apply wB|apply wC hX hC|apply wD hX hC|apply wE hX hC af|apply wF hX hC af|apply wG|apply wH|apply And.intro))|((with_reducible refine oD ?_ ?_);kernel_rfl)|((with_reducible (first|apply oE|apply oF));(iterate 3 exact rfl);all_goals (intro h;first|(exact absurd h (by decide))|((try simp only [go_sem,simprocAttr,hb,an] at h);(try with_reducible intro K hK);simp only [go_sem,simprocAttr,hb,an])))|((first|((with_reducible apply wL);exact rfl)|((with_reducible apply wM);exact rfl));all_goals (try ((with_reducible intro h);first|(exact absurd h (by decide))|(try simp only [go_sem,simprocAttr,hb,an] at h))))|omega|((first|(refine aE hX hC hP [(10000,10000)] (bz g hl f x iW hp1) rfl rfl rfl ?_ ?_ ?_ ?_ ?_ ?_ rfl rfl ?_ ?_;(focus (simp only [go_sem,simprocAttr,hb,an];done));(iterate 6 (focus (simp [go_sem,simprocAttr,hb,an];done)));simp only [go_sem,simprocAttr,hb,an,List.map_cons,List.map_nil])|refine aa hX hC hP (aW g x true hl) rfl rfl rfl (by simp only [go_sem,simprocAttr,hb,an]) rfl ?_|refine aa hX hC hP (bk outs ((bw g x).getD k 0) sx) rfl rfl rfl (by simp only [go_sem,simprocAttr,hb,an]) rfl ?_);try simp only [go_sem,simprocAttr,hb,an])|(intro h))
 have hb:decide ((k:Int)<((bw g x).length:Int))=false:=decide_eq_false (by omega)
 have hsub:∀i∈bw g x,i∈outs:=fun i hi=>by
  obtain ⟨j,hj,rfl⟩:=List.mem_iff_getElem.1 hi
  have:=hg j (by omega)
  rwa [List.getD_eq_getElem?_getD,List.getElem?_eq_getElem hj] at this
 have D3:∀i∈outs,0≤i∧i<g.es.length:=fun i hi=>(ir (u5 dw hsub hlen i hi)).1
 rw [if_neg (fun ⟨i,h1,h2⟩=>h2 (hsub i h1))] at F0
 subst F0
 clear hk hg hge hsub hP
 repeat' (first|((first|((with_reducible (first|apply oA|apply oB));exact rfl;intro K hK)|(refine hK _ ?_;clear hK K)|((with_reducible (first|apply oG|apply oH));iterate 3 exact rfl)|((with_reducible apply oI);(iterate 2 exact rfl);intro K hK)|(with_reducible (first|apply wI|apply wJ|apply wK)));try simp only [go_sem,simprocAttr,hb])|(with_reducible (first|apply oC|apply oJ|exact oK|apply wA|apply wB|apply wC hX hC|apply wD hX hC|apply wE hX hC af|apply wF hX hC af|apply wG|apply wH|apply And.intro))|((with_reducible refine oD ?_ ?_);kernel_rfl)|((with_reducible (first|apply oE|apply oF));(iterate 3 exact rfl);all_goals (intro h;first|(exact absurd h (by decide))|((try simp only [go_sem,simprocAttr,hb] at h);(try with_reducible intro K hK);simp only [go_sem,simprocAttr,hb])))|((first|((with_reducible apply wL);exact rfl)|((with_reducible apply wM);exact rfl));all_goals (try ((with_reducible intro h);first|(exact absurd h (by decide))|(try simp only [go_sem,simprocAttr,hb] at h))))|omega|((first|(refine aE hX hC hP [(10000,10000)] (bz g hl f x iW hp1) rfl rfl rfl ?_ ?_ ?_ ?_ ?_ ?_ rfl rfl ?_ ?_;(focus (simp only [go_sem,simprocAttr,hb];done));(iterate 6 (focus (simp [go_sem,simprocAttr,hb];done)));simp only [go_sem,simprocAttr,hb,List.map_cons,List.map_nil])|refine aa hX hC hP (aW g x true hl) rfl rfl rfl (by simp only [go_sem,simprocAttr,hb]) rfl ?_|refine aa hX hC hP (bk outs ((bw g x).getD k 0) sx) rfl rfl rfl (by simp only [go_sem,simprocAttr,hb]) rfl ?_);try simp only [go_sem,simprocAttr,hb])|(intro h))
 (refine mg hX 10 45 72 (by simp only [go_sem,simprocAttr,hb]) rfl (by first|exact .inl rfl|exact .inr rfl) (by decide) ?_;simp only [go_sem,simprocAttr,hb])
 refine aj (fun k:Nat=>k≤outs.length) (fun k=>⟨[(0, .ptr 10000 0),(1,eN x),(2, .d (sI outs)),(11,eN k),(10, .ref 72)], [(10000, .box [eN g.n, .d (sE g.es), .d (sT f.row), .d (sI f.pl)]),(72, .tip 100 3 (((outs.take k).map (fq g x)).map rT))]⟩) (fun k=>outs.length - k) 0 (by omega) ?_ ?_
 ·refine Le.of ?_ ?_<;>simp [go_sem,simprocAttr,hb]
 clear hb
 rintro k hk
 rcases Nat.lt_or_ge k outs.length with hlt|hge
 ·have hb:decide ((k:Int)<(outs.length:Int))=true:=decide_eq_true (by omega)
  have c7:=ry (f:=fq g x) (d:=0) hlt
  have GQ:=D3 _ (bS (d:=0) hlt)
  have hlk:(outs.take k).length=k:=by simp;omega
  repeat' (first|((first|((with_reducible (first|apply oA|apply oB));exact rfl;intro K hK)|(refine hK _ ?_;clear hK K)|((with_reducible (first|apply oG|apply oH));iterate 3 exact rfl)|((with_reducible apply oI);(iterate 2 exact rfl);intro K hK)|(with_reducible (first|apply wI|apply wJ|apply wK)));try simp only [go_sem,simprocAttr,hb,hlk])|(with_reducible (first|apply oC|apply oJ|exact oK|apply wA|apply wB|apply wC hX hC|apply wD hX hC|apply wE hX hC af|apply wF hX hC af|apply wG|apply wH|apply And.intro))|((with_reducible refine oD ?_ ?_);kernel_rfl)|((with_reducible (first|apply oE|apply oF));(iterate 3 exact rfl);all_goals (intro h;first|(exact absurd h (by decide))|((try simp only [go_sem,simprocAttr,hb,hlk] at h);(try with_reducible intro K hK);simp only [go_sem,simprocAttr,hb,hlk])))|((first|((with_reducible apply wL);exact rfl)|((with_reducible apply wM);exact rfl));all_goals (try ((with_reducible intro h);first|(exact absurd h (by decide))|(try simp only [go_sem,simprocAttr,hb,hlk] at h))))|omega|((first|(refine aE hX hC hP [(10000,10000)] (bz g hl f x iW hp1) rfl rfl rfl ?_ ?_ ?_ ?_ ?_ ?_ rfl rfl ?_ ?_;(focus (simp only [go_sem,simprocAttr,hb,hlk];done));(iterate 6 (focus (simp [go_sem,simprocAttr,hb,hlk];done)));simp only [go_sem,simprocAttr,hb,hlk,List.map_cons,List.map_nil])|refine aa hX hC hP (aW g x true hl) rfl rfl rfl (by simp only [go_sem,simprocAttr,hb,hlk]) rfl ?_|refine aa hX hC hP (bk outs ((bw g x).getD k 0) sx) rfl rfl rfl (by simp only [go_sem,simprocAttr,hb,hlk]) rfl ?_);try simp only [go_sem,simprocAttr,hb,hlk])|(intro h))
  refine ⟨k+1,by omega, ?_,by omega⟩
  refine Le.of ?_ ?_<;>simp [go_sem,simprocAttr,hb,hlk,c7,fq]
 have hb:decide ((k:Int)<(outs.length:Int))=false:=decide_eq_false (by omega)
 obtain rfl:k=outs.length:=by omega
 have ht:outs.take outs.length=outs:=List.take_of_length_le (by omega)
 clear hk hge
 by_cases h0:outs= []
 ·have hA:aM g x outs= [(-1,x, -1)]:=if_pos h0
  have hb0:decide ((outs.length:Int)=0)=true:=decide_eq_true (by rw [h0];rfl)
  have hm0:(outs.map (fq g x)).map rT= []:=by rw [h0];rfl
  repeat' (first|((first|((with_reducible (first|apply oA|apply oB));exact rfl;intro K hK)|(refine hK _ ?_;clear hK K)|((with_reducible (first|apply oG|apply oH));iterate 3 exact rfl)|((with_reducible apply oI);(iterate 2 exact rfl);intro K hK)|(with_reducible (first|apply wI|apply wJ|apply wK)));try simp only [go_sem,simprocAttr,hb,ht,hb0,hm0,List.nil_append])|(with_reducible (first|apply oC|apply oJ|exact oK|apply wA|apply wB|apply wC hX hC|apply wD hX hC|apply wE hX hC af|apply wF hX hC af|apply wG|apply wH|apply And.intro))|((with_reducible refine oD ?_ ?_);kernel_rfl)|((with_reducible (first|apply oE|apply oF));(iterate 3 exact rfl);all_goals (intro h;first|(exact absurd h (by decide))|((try simp only [go_sem,simprocAttr,hb,ht,hb0,hm0,List.nil_append] at h);(try with_reducible intro K hK);simp only [go_sem,simprocAttr,hb,ht,hb0,hm0,List.nil_append])))|((first|((with_reducible apply wL);exact rfl)|((with_reducible apply wM);exact rfl));all_goals (try ((with_reducible intro h);first|(exact absurd h (by decide))|(try simp only [go_sem,simprocAttr,hb,ht,hb0,hm0,List.nil_append] at h))))|omega|((first|(refine aE hX hC hP [(10000,10000)] (bz g hl f x iW hp1) rfl rfl rfl ?_ ?_ ?_ ?_ ?_ ?_ rfl rfl ?_ ?_;(focus (simp only [go_sem,simprocAttr,hb,ht,hb0,hm0,List.nil_append];done));(iterate 6 (focus (simp [go_sem,simprocAttr,hb,ht,hb0,hm0,List.nil_append];done)));simp only [go_sem,simprocAttr,hb,ht,hb0,hm0,List.nil_append,List.map_cons,List.map_nil])|refine aa hX hC hP (aW g x true hl) rfl rfl rfl (by simp only [go_sem,simprocAttr,hb,ht,hb0,hm0,List.nil_append]) rfl ?_|refine aa hX hC hP (bk outs ((bw g x).getD k 0) sx) rfl rfl rfl (by simp only [go_sem,simprocAttr,hb,ht,hb0,hm0,List.nil_append]) rfl ?_);try simp only [go_sem,simprocAttr,hb,ht,hb0,hm0,List.nil_append])|(intro h))
  (refine mg hX 10 80 72 (by simp only [go_sem,simprocAttr,hb,ht,hb0,hm0,List.nil_append]) rfl (by first|exact .inl rfl|exact .inr rfl) (by decide) ?_;simp only [go_sem,simprocAttr,hb,ht,hb0,hm0,List.nil_append])
  refine aj (fun k:Nat=>k≤f.row.length) (fun k=>⟨[(0, .ptr 10000 0),(1,eN x),(10, .ref 72),(12,eN (cF f.row x k).1),(13,eN ((cF f.row x k).2.1 - 1)),(14,eN k)], [(10000, .box [eN g.n, .d (sE g.es), .d (sT f.row), .d (sI f.pl)]),(72, .tip 100 3 ((aM g x outs).map rT))]⟩) (fun k=>f.row.length - k) 0 (by omega) ?_ ?_
  ·refine Le.of ?_ ?_<;>simp [go_sem,simprocAttr,hb,ht,hb0,hm0,List.nil_append,cF,hA]
  rintro k hk
  rcases Nat.lt_or_ge k f.row.length with hlt|hge
  ·have hb:decide ((k:Int)<(f.row.length:Int))=true:=decide_eq_true (by omega)
   have hok:=cP (row:=f.row) (x:=x) k
   have c7:=iF (row:=f.row) (x:=x) (k:=k)
   have vn:(cF f.row x k).1<0↔(cF f.row x k).1= -1:=by
    rcases hok with ⟨h1,_⟩|⟨a,b,c,h1,_⟩
    ·rw [h1];exact ⟨fun _=>rfl,fun _=>by decide⟩
    ·rw [h1];show (a:Int)<0↔(a:Int)= -1;omega
   repeat' (first|((first|((with_reducible (first|apply oA|apply oB));exact rfl;intro K hK)|(refine hK _ ?_;clear hK K)|((with_reducible (first|apply oG|apply oH));iterate 3 exact rfl)|((with_reducible apply oI);(iterate 2 exact rfl);intro K hK)|(with_reducible (first|apply wI|apply wJ|apply wK)));try simp only [go_sem,simprocAttr,hb])|(with_reducible (first|apply oC|apply oJ|exact oK|apply wA|apply wB|apply wC hX hC|apply wD hX hC|apply wE hX hC af|apply wF hX hC af|apply wG|apply wH|apply And.intro))|((with_reducible refine oD ?_ ?_);kernel_rfl)|((with_reducible (first|apply oE|apply oF));(iterate 3 exact rfl);all_goals (intro h;first|(exact absurd h (by decide))|((try simp only [go_sem,simprocAttr,hb] at h);(try with_reducible intro K hK);simp only [go_sem,simprocAttr,hb])))|((first|((with_reducible apply wL);exact rfl)|((with_reducible apply wM);exact rfl));all_goals (try ((with_reducible intro h);first|(exact absurd h (by decide))|(try simp only [go_sem,simprocAttr,hb] at h))))|omega|((first|(refine aE hX hC hP [(10000,10000)] (bz g hl f x iW hp1) rfl rfl rfl ?_ ?_ ?_ ?_ ?_ ?_ rfl rfl ?_ ?_;(focus (simp only [go_sem,simprocAttr,hb];done));(iterate 6 (focus (simp [go_sem,simprocAttr,hb];done)));simp only [go_sem,simprocAttr,hb,List.map_cons,List.map_nil])|refine aa hX hC hP (aW g x true hl) rfl rfl rfl (by simp only [go_sem,simprocAttr,hb]) rfl ?_|refine aa hX hC hP (bk outs ((bw g x).getD k 0) sx) rfl rfl rfl (by simp only [go_sem,simprocAttr,hb]) rfl ?_);try simp only [go_sem,simprocAttr,hb])|(intro h))
   all_goals (try rw [vn] at*)
   all_goals (first|rw [if_neg (by assumption)] at c7|(rw [if_pos (by assumption)] at c7;first|rw [if_pos (by assumption)] at c7|rw [if_neg (by assumption)] at c7))
   all_goals (refine ⟨k+1,by omega, ?_,by omega⟩;refine Le.of ?_ ?_<;>simp [go_sem,simprocAttr,hb,c7])
  have hb:decide ((k:Int)<(f.row.length:Int))=false:=decide_eq_false (by omega)
  obtain rfl:k=f.row.length:=by omega
  clear hk hge
  have htr:List.take f.row.length (f.row.map rT)=f.row.map rT:=List.take_of_length_le (by simp)
  have HH:=j5 (g:=g) (x:=x) (outs:=outs)
  rcases cP (row:=f.row) (x:=x) f.row.length with ⟨hs,_⟩|⟨a,b,c,hs,hab,qg,_⟩
  ·have hS:au g f x outs=(([],0),⟨aM g x outs++f.row,f.pl++ [x]⟩):=by
    have e:aV f.row x=(-1,0,0):=hs
    unfold au
    rw [e];simp;exact .inl (by decide)
   repeat' (first|(show dH _ .ret _ _;(try simp only [go_sem,simprocAttr,hb,hs,hS,htr,List.map_append,List.map_cons,List.map_nil,rI,List.length_append,List.length_map,List.length_take,List.length_drop]);(refine dD hX 113 rfl ?_;simp only [go_sem,simprocAttr,hb,hs,hS,htr,List.map_append,List.map_cons,List.map_nil,rI,List.length_append,List.length_map,List.length_take,List.length_drop]);first|(refine dD hX 124 rfl ?_;simp only [go_sem,simprocAttr,hb,hs,hS,htr,List.map_append,List.map_cons,List.map_nil,rI,List.length_append,List.length_map,List.length_take,List.length_drop])|(refine dD hX 156 rfl ?_;simp only [go_sem,simprocAttr,hb,hs,hS,htr,List.map_append,List.map_cons,List.map_nil,rI,List.length_append,List.length_map,List.length_take,List.length_drop]))|((first|((with_reducible (first|apply oA|apply oB));exact rfl;intro K hK)|(refine hK _ ?_;clear hK K)|((with_reducible (first|apply oG|apply oH));iterate 3 exact rfl)|((with_reducible apply oI);(iterate 2 exact rfl);intro K hK)|(with_reducible (first|apply wI|apply wJ|apply wK)));try simp only [go_sem,simprocAttr,hb,hs,hS,htr,List.map_append,List.map_cons,List.map_nil,rI,List.length_append,List.length_map,List.length_take,List.length_drop])|(with_reducible (first|apply oC|apply oJ|exact oK|apply wA|apply wB|apply wC hX hC|apply wD hX hC|apply wE hX hC af|apply wF hX hC af|apply wG|apply wH|apply And.intro))|((with_reducible refine oD ?_ ?_);kernel_rfl)|((with_reducible (first|apply oE|apply oF));(iterate 3 exact rfl);all_goals (intro h;first|(exact absurd h (by decide))|((try simp only [go_sem,simprocAttr,hb,hs,hS,htr,List.map_append,List.map_cons,List.map_nil,rI,List.length_append,List.length_map,List.length_take,List.length_drop] at h);(try with_reducible intro K hK);simp only [go_sem,simprocAttr,hb,hs,hS,htr,List.map_append,List.map_cons,List.map_nil,rI,List.length_append,List.length_map,List.length_take,List.length_drop])))|((first|((with_reducible apply wL);exact rfl)|((with_reducible apply wM);exact rfl));all_goals (try ((with_reducible intro h);first|(exact absurd h (by decide))|(try simp only [go_sem,simprocAttr,hb,hs,hS,htr,List.map_append,List.map_cons,List.map_nil,rI,List.length_append,List.length_map,List.length_take,List.length_drop] at h))))|omega|((first|(refine aE hX hC hP [(10000,10000)] (bz g hl f x iW hp1) rfl rfl rfl ?_ ?_ ?_ ?_ ?_ ?_ rfl rfl ?_ ?_;(focus (simp only [go_sem,simprocAttr,hb,hs,hS,htr,List.map_append,List.map_cons,List.map_nil,rI,List.length_append,List.length_map,List.length_take,List.length_drop];done));(iterate 6 (focus (simp [go_sem,simprocAttr,hb,hs,hS,htr,List.map_append,List.map_cons,List.map_nil,rI,List.length_append,List.length_map,List.length_take,List.length_drop];done)));simp only [go_sem,simprocAttr,hb,hs,hS,htr,List.map_append,List.map_cons,List.map_nil,rI,List.length_append,List.length_map,List.length_take,List.length_drop,List.map_cons,List.map_nil])|refine aa hX hC hP (aW g x true hl) rfl rfl rfl (by simp only [go_sem,simprocAttr,hb,hs,hS,htr,List.map_append,List.map_cons,List.map_nil,rI,List.length_append,List.length_map,List.length_take,List.length_drop]) rfl ?_|refine aa hX hC hP (bk outs ((bw g x).getD k 0) sx) rfl rfl rfl (by simp only [go_sem,simprocAttr,hb,hs,hS,htr,List.map_append,List.map_cons,List.map_nil,rI,List.length_append,List.length_map,List.length_take,List.length_drop]) rfl ?_);try simp only [go_sem,simprocAttr,hb,hs,hS,htr,List.map_append,List.map_cons,List.map_nil,rI,List.length_append,List.length_map,List.length_take,List.length_drop])|(intro h))
  ·have hS:au g f x outs=(((f.row.take b).drop a,0),⟨f.row.take a++aM g x outs++f.row.drop b,f.pl++ [x]⟩):=by
    have e:aV f.row x=((a:Int),(b:Int),(c:Int)):=hs
    unfold au
    rw [e]
    have e1:(max (a:Int) 0).toNat=a:=by omega
    simp only [e1,Int.toNat_natCast]
   have nF:((b:Int) - 1+1)=b:=by omega
   repeat' (first|(show dH _ .ret _ _;(try simp only [go_sem,simprocAttr,hb,hs,hS,nF,htr,List.map_append,List.map_cons,List.map_nil,List.map_take,List.map_drop,rI,List.length_append,List.length_map,List.length_take,List.length_drop]);(refine dD hX 113 rfl ?_;simp only [go_sem,simprocAttr,hb,hs,hS,nF,htr,List.map_append,List.map_cons,List.map_nil,List.map_take,List.map_drop,rI,List.length_append,List.length_map,List.length_take,List.length_drop]);first|(refine dD hX 124 rfl ?_;simp only [go_sem,simprocAttr,hb,hs,hS,nF,htr,List.map_append,List.map_cons,List.map_nil,List.map_take,List.map_drop,rI,List.length_append,List.length_map,List.length_take,List.length_drop])|(refine dD hX 156 rfl ?_;simp only [go_sem,simprocAttr,hb,hs,hS,nF,htr,List.map_append,List.map_cons,List.map_nil,List.map_take,List.map_drop,rI,List.length_append,List.length_map,List.length_take,List.length_drop]))|((first|((with_reducible (first|apply oA|apply oB));exact rfl;intro K hK)|(refine hK _ ?_;clear hK K)|((with_reducible (first|apply oG|apply oH));iterate 3 exact rfl)|((with_reducible apply oI);(iterate 2 exact rfl);intro K hK)|(with_reducible (first|apply wI|apply wJ|apply wK)));try simp only [go_sem,simprocAttr,hb,hs,hS,nF,htr,List.map_append,List.map_cons,List.map_nil,List.map_take,List.map_drop,rI,List.length_append,List.length_map,List.length_take,List.length_drop])|(with_reducible (first|apply oC|apply oJ|exact oK|apply wA|apply wB|apply wC hX hC|apply wD hX hC|apply wE hX hC af|apply wF hX hC af|apply wG|apply wH|apply And.intro))|((with_reducible refine oD ?_ ?_);kernel_rfl)|((with_reducible (first|apply oE|apply oF));(iterate 3 exact rfl);all_goals (intro h;first|(exact absurd h (by decide))|((try simp only [go_sem,simprocAttr,hb,hs,hS,nF,htr,List.map_append,List.map_cons,List.map_nil,List.map_take,List.map_drop,rI,List.length_append,List.length_map,List.length_take,List.length_drop] at h);(try with_reducible intro K hK);simp only [go_sem,simprocAttr,hb,hs,hS,nF,htr,List.map_append,List.map_cons,List.map_nil,List.map_take,List.map_drop,rI,List.length_append,List.length_map,List.length_take,List.length_drop])))|((first|((with_reducible apply wL);exact rfl)|((with_reducible apply wM);exact rfl));all_goals (try ((with_reducible intro h);first|(exact absurd h (by decide))|(try simp only [go_sem,simprocAttr,hb,hs,hS,nF,htr,List.map_append,List.map_cons,List.map_nil,List.map_take,List.map_drop,rI,List.length_append,List.length_map,List.length_take,List.length_drop] at h))))|omega|((first|(refine aE hX hC hP [(10000,10000)] (bz g hl f x iW hp1) rfl rfl rfl ?_ ?_ ?_ ?_ ?_ ?_ rfl rfl ?_ ?_;(focus (simp only [go_sem,simprocAttr,hb,hs,hS,nF,htr,List.map_append,List.map_cons,List.map_nil,List.map_take,List.map_drop,rI,List.length_append,List.length_map,List.length_take,List.length_drop];done));(iterate 6 (focus (simp [go_sem,simprocAttr,hb,hs,hS,nF,htr,List.map_append,List.map_cons,List.map_nil,List.map_take,List.map_drop,rI,List.length_append,List.length_map,List.length_take,List.length_drop];done)));simp only [go_sem,simprocAttr,hb,hs,hS,nF,htr,List.map_append,List.map_cons,List.map_nil,List.map_take,List.map_drop,rI,List.length_append,List.length_map,List.length_take,List.length_drop,List.map_cons,List.map_nil])|refine aa hX hC hP (aW g x true hl) rfl rfl rfl (by simp only [go_sem,simprocAttr,hb,hs,hS,nF,htr,List.map_append,List.map_cons,List.map_nil,List.map_take,List.map_drop,rI,List.length_append,List.length_map,List.length_take,List.length_drop]) rfl ?_|refine aa hX hC hP (bk outs ((bw g x).getD k 0) sx) rfl rfl rfl (by simp only [go_sem,simprocAttr,hb,hs,hS,nF,htr,List.map_append,List.map_cons,List.map_nil,List.map_take,List.map_drop,rI,List.length_append,List.length_map,List.length_take,List.length_drop]) rfl ?_);try simp only [go_sem,simprocAttr,hb,hs,hS,nF,htr,List.map_append,List.map_cons,List.map_nil,List.map_take,List.map_drop,rI,List.length_append,List.length_map,List.length_take,List.length_drop])|(intro h))
 ·have hA:aM g x outs=outs.map (fq g x):=if_neg h0
  have hb0:decide ((outs.length:Int)=0)=false:=decide_eq_false fun h=>h0 (List.eq_nil_of_length_eq_zero (by omega))
  repeat' (first|((first|((with_reducible (first|apply oA|apply oB));exact rfl;intro K hK)|(refine hK _ ?_;clear hK K)|((with_reducible (first|apply oG|apply oH));iterate 3 exact rfl)|((with_reducible apply oI);(iterate 2 exact rfl);intro K hK)|(with_reducible (first|apply wI|apply wJ|apply wK)));try simp only [go_sem,simprocAttr,hb,ht,hb0])|(with_reducible (first|apply oC|apply oJ|exact oK|apply wA|apply wB|apply wC hX hC|apply wD hX hC|apply wE hX hC af|apply wF hX hC af|apply wG|apply wH|apply And.intro))|((with_reducible refine oD ?_ ?_);kernel_rfl)|((with_reducible (first|apply oE|apply oF));(iterate 3 exact rfl);all_goals (intro h;first|(exact absurd h (by decide))|((try simp only [go_sem,simprocAttr,hb,ht,hb0] at h);(try with_reducible intro K hK);simp only [go_sem,simprocAttr,hb,ht,hb0])))|((first|((with_reducible apply wL);exact rfl)|((with_reducible apply wM);exact rfl));all_goals (try ((with_reducible intro h);first|(exact absurd h (by decide))|(try simp only [go_sem,simprocAttr,hb,ht,hb0] at h))))|omega|((first|(refine aE hX hC hP [(10000,10000)] (bz g hl f x iW hp1) rfl rfl rfl ?_ ?_ ?_ ?_ ?_ ?_ rfl rfl ?_ ?_;(focus (simp only [go_sem,simprocAttr,hb,ht,hb0];done));(iterate 6 (focus (simp [go_sem,simprocAttr,hb,ht,hb0];done)));simp only [go_sem,simprocAttr,hb,ht,hb0,List.map_cons,List.map_nil])|refine aa hX hC hP (aW g x true hl) rfl rfl rfl (by simp only [go_sem,simprocAttr,hb,ht,hb0]) rfl ?_|refine aa hX hC hP (bk outs ((bw g x).getD k 0) sx) rfl rfl rfl (by simp only [go_sem,simprocAttr,hb,ht,hb0]) rfl ?_);try simp only [go_sem,simprocAttr,hb,ht,hb0])|(intro h))
  refine aj (fun k:Nat=>k≤f.row.length) (fun k=>⟨[(0, .ptr 10000 0),(1,eN x),(10, .ref 72),(12,eN (cF f.row x k).1),(13,eN ((cF f.row x k).2.1 - 1)),(14,eN k)], [(10000, .box [eN g.n, .d (sE g.es), .d (sT f.row), .d (sI f.pl)]),(72, .tip 100 3 ((aM g x outs).map rT))]⟩) (fun k=>f.row.length - k) 0 (by omega) ?_ ?_
  ·refine Le.of ?_ ?_<;>simp [go_sem,simprocAttr,hb,ht,hb0,cF,hA]
  rintro k hk
  rcases Nat.lt_or_ge k f.row.length with hlt|hge
  ·have hb:decide ((k:Int)<(f.row.length:Int))=true:=decide_eq_true (by omega)
   have hok:=cP (row:=f.row) (x:=x) k
   have c7:=iF (row:=f.row) (x:=x) (k:=k)
   have vn:(cF f.row x k).1<0↔(cF f.row x k).1= -1:=by
    rcases hok with ⟨h1,_⟩|⟨a,b,c,h1,_⟩
    ·rw [h1];exact ⟨fun _=>rfl,fun _=>by decide⟩
    ·rw [h1];show (a:Int)<0↔(a:Int)= -1;omega
   repeat' (first|((first|((with_reducible (first|apply oA|apply oB));exact rfl;intro K hK)|(refine hK _ ?_;clear hK K)|((with_reducible (first|apply oG|apply oH));iterate 3 exact rfl)|((with_reducible apply oI);(iterate 2 exact rfl);intro K hK)|(with_reducible (first|apply wI|apply wJ|apply wK)));try simp only [go_sem,simprocAttr,hb])|(with_reducible (first|apply oC|apply oJ|exact oK|apply wA|apply wB|apply wC hX hC|apply wD hX hC|apply wE hX hC af|apply wF hX hC af|apply wG|apply wH|apply And.intro))|((with_reducible refine oD ?_ ?_);kernel_rfl)|((with_reducible (first|apply oE|apply oF));(iterate 3 exact rfl);all_goals (intro h;first|(exact absurd h (by decide))|((try simp only [go_sem,simprocAttr,hb] at h);(try with_reducible intro K hK);simp only [go_sem,simprocAttr,hb])))|((first|((with_reducible apply wL);exact rfl)|((with_reducible apply wM);exact rfl));all_goals (try ((with_reducible intro h);first|(exact absurd h (by decide))|(try simp only [go_sem,simprocAttr,hb] at h))))|omega|((first|(refine aE hX hC hP [(10000,10000)] (bz g hl f x iW hp1) rfl rfl rfl ?_ ?_ ?_ ?_ ?_ ?_ rfl rfl ?_ ?_;(focus (simp only [go_sem,simprocAttr,hb];done));(iterate 6 (focus (simp [go_sem,simprocAttr,hb];done)));simp only [go_sem,simprocAttr,hb,List.map_cons,List.map_nil])|refine aa hX hC hP (aW g x true hl) rfl rfl rfl (by simp only [go_sem,simprocAttr,hb]) rfl ?_|refine aa hX hC hP (bk outs ((bw g x).getD k 0) sx) rfl rfl rfl (by simp only [go_sem,simprocAttr,hb]) rfl ?_);try simp only [go_sem,simprocAttr,hb])|(intro h))
   all_goals (try rw [vn] at*)
   all_goals (first|rw [if_neg (by assumption)] at c7|(rw [if_pos (by assumption)] at c7;first|rw [if_pos (by assumption)] at c7|rw [if_neg (by assumption)] at c7))
   all_goals (refine ⟨k+1,by omega, ?_,by omega⟩;refine Le.of ?_ ?_<;>simp [go_sem,simprocAttr,hb,c7])
  have hb:decide ((k:Int)<(f.row.length:Int))=false:=decide_eq_false (by omega)
  obtain rfl:k=f.row.length:=by omega
  clear hk hge
  have htr:List.take f.row.length (f.row.map rT)=f.row.map rT:=List.take_of_length_le (by simp)
  have HH:=j5 (g:=g) (x:=x) (outs:=outs)
  rcases cP (row:=f.row) (x:=x) f.row.length with ⟨hs,_⟩|⟨a,b,c,hs,hab,qg,_⟩
  ·have hS:au g f x outs=(([],0),⟨aM g x outs++f.row,f.pl++ [x]⟩):=by
    have e:aV f.row x=(-1,0,0):=hs
    unfold au
    rw [e];simp;exact .inl (by decide)
   repeat' (first|(show dH _ .ret _ _;(try simp only [go_sem,simprocAttr,hb,hs,hS,htr,List.map_append,List.map_cons,List.map_nil,rI,List.length_append,List.length_map,List.length_take,List.length_drop]);(refine dD hX 113 rfl ?_;simp only [go_sem,simprocAttr,hb,hs,hS,htr,List.map_append,List.map_cons,List.map_nil,rI,List.length_append,List.length_map,List.length_take,List.length_drop]);first|(refine dD hX 124 rfl ?_;simp only [go_sem,simprocAttr,hb,hs,hS,htr,List.map_append,List.map_cons,List.map_nil,rI,List.length_append,List.length_map,List.length_take,List.length_drop])|(refine dD hX 156 rfl ?_;simp only [go_sem,simprocAttr,hb,hs,hS,htr,List.map_append,List.map_cons,List.map_nil,rI,List.length_append,List.length_map,List.length_take,List.length_drop]))|((first|((with_reducible (first|apply oA|apply oB));exact rfl;intro K hK)|(refine hK _ ?_;clear hK K)|((with_reducible (first|apply oG|apply oH));iterate 3 exact rfl)|((with_reducible apply oI);(iterate 2 exact rfl);intro K hK)|(with_reducible (first|apply wI|apply wJ|apply wK)));try simp only [go_sem,simprocAttr,hb,hs,hS,htr,List.map_append,List.map_cons,List.map_nil,rI,List.length_append,List.length_map,List.length_take,List.length_drop])|(with_reducible (first|apply oC|apply oJ|exact oK|apply wA|apply wB|apply wC hX hC|apply wD hX hC|apply wE hX hC af|apply wF hX hC af|apply wG|apply wH|apply And.intro))|((with_reducible refine oD ?_ ?_);kernel_rfl)|((with_reducible (first|apply oE|apply oF));(iterate 3 exact rfl);all_goals (intro h;first|(exact absurd h (by decide))|((try simp only [go_sem,simprocAttr,hb,hs,hS,htr,List.map_append,List.map_cons,List.map_nil,rI,List.length_append,List.length_map,List.length_take,List.length_drop] at h);(try with_reducible intro K hK);simp only [go_sem,simprocAttr,hb,hs,hS,htr,List.map_append,List.map_cons,List.map_nil,rI,List.length_append,List.length_map,List.length_take,List.length_drop])))|((first|((with_reducible apply wL);exact rfl)|((with_reducible apply wM);exact rfl));all_goals (try ((with_reducible intro h);first|(exact absurd h (by decide))|(try simp only [go_sem,simprocAttr,hb,hs,hS,htr,List.map_append,List.map_cons,List.map_nil,rI,List.length_append,List.length_map,List.length_take,List.length_drop] at h))))|omega|((first|(refine aE hX hC hP [(10000,10000)] (bz g hl f x iW hp1) rfl rfl rfl ?_ ?_ ?_ ?_ ?_ ?_ rfl rfl ?_ ?_;(focus (simp only [go_sem,simprocAttr,hb,hs,hS,htr,List.map_append,List.map_cons,List.map_nil,rI,List.length_append,List.length_map,List.length_take,List.length_drop];done));(iterate 6 (focus (simp [go_sem,simprocAttr,hb,hs,hS,htr,List.map_append,List.map_cons,List.map_nil,rI,List.length_append,List.length_map,List.length_take,List.length_drop];done)));simp only [go_sem,simprocAttr,hb,hs,hS,htr,List.map_append,List.map_cons,List.map_nil,rI,List.length_append,List.length_map,List.length_take,List.length_drop,List.map_cons,List.map_nil])|refine aa hX hC hP (aW g x true hl) rfl rfl rfl (by simp only [go_sem,simprocAttr,hb,hs,hS,htr,List.map_append,List.map_cons,List.map_nil,rI,List.length_append,List.length_map,List.length_take,List.length_drop]) rfl ?_|refine aa hX hC hP (bk outs ((bw g x).getD k 0) sx) rfl rfl rfl (by simp only [go_sem,simprocAttr,hb,hs,hS,htr,List.map_append,List.map_cons,List.map_nil,rI,List.length_append,List.length_map,List.length_take,List.length_drop]) rfl ?_);try simp only [go_sem,simprocAttr,hb,hs,hS,htr,List.map_append,List.map_cons,List.map_nil,rI,List.length_append,List.length_map,List.length_take,List.length_drop])|(intro h))
  ·have hS:au g f x outs=(((f.row.take b).drop a,0),⟨f.row.take a++aM g x outs++f.row.drop b,f.pl++ [x]⟩):=by
    have e:aV f.row x=((a:Int),(b:Int),(c:Int)):=hs
    unfold au
    rw [e]
    have e1:(max (a:Int) 0).toNat=a:=by omega
    simp only [e1,Int.toNat_natCast]
   have nF:((b:Int) - 1+1)=b:=by omega
   repeat' (first|(show dH _ .ret _ _;(try simp only [go_sem,simprocAttr,hb,hs,hS,nF,htr,List.map_append,List.map_cons,List.map_nil,List.map_take,List.map_drop,rI,List.length_append,List.length_map,List.length_take,List.length_drop]);(refine dD hX 113 rfl ?_;simp only [go_sem,simprocAttr,hb,hs,hS,nF,htr,List.map_append,List.map_cons,List.map_nil,List.map_take,List.map_drop,rI,List.length_append,List.length_map,List.length_take,List.length_drop]);first|(refine dD hX 124 rfl ?_;simp only [go_sem,simprocAttr,hb,hs,hS,nF,htr,List.map_append,List.map_cons,List.map_nil,List.map_take,List.map_drop,rI,List.length_append,List.length_map,List.length_take,List.length_drop])|(refine dD hX 156 rfl ?_;simp only [go_sem,simprocAttr,hb,hs,hS,nF,htr,List.map_append,List.map_cons,List.map_nil,List.map_take,List.map_drop,rI,List.length_append,List.length_map,List.length_take,List.length_drop]))|((first|((with_reducible (first|apply oA|apply oB));exact rfl;intro K hK)|(refine hK _ ?_;clear hK K)|((with_reducible (first|apply oG|apply oH));iterate 3 exact rfl)|((with_reducible apply oI);(iterate 2 exact rfl);intro K hK)|(with_reducible (first|apply wI|apply wJ|apply wK)));try simp only [go_sem,simprocAttr,hb,hs,hS,nF,htr,List.map_append,List.map_cons,List.map_nil,List.map_take,List.map_drop,rI,List.length_append,List.length_map,List.length_take,List.length_drop])|(with_reducible (first|apply oC|apply oJ|exact oK|apply wA|apply wB|apply wC hX hC|apply wD hX hC|apply wE hX hC af|apply wF hX hC af|apply wG|apply wH|apply And.intro))|((with_reducible refine oD ?_ ?_);kernel_rfl)|((with_reducible (first|apply oE|apply oF));(iterate 3 exact rfl);all_goals (intro h;first|(exact absurd h (by decide))|((try simp only [go_sem,simprocAttr,hb,hs,hS,nF,htr,List.map_append,List.map_cons,List.map_nil,List.map_take,List.map_drop,rI,List.length_append,List.length_map,List.length_take,List.length_drop] at h);(try with_reducible intro K hK);simp only [go_sem,simprocAttr,hb,hs,hS,nF,htr,List.map_append,List.map_cons,List.map_nil,List.map_take,List.map_drop,rI,List.length_append,List.length_map,List.length_take,List.length_drop])))|((first|((with_reducible apply wL);exact rfl)|((with_reducible apply wM);exact rfl));all_goals (try ((with_reducible intro h);first|(exact absurd h (by decide))|(try simp only [go_sem,simprocAttr,hb,hs,hS,nF,htr,List.map_append,List.map_cons,List.map_nil,List.map_take,List.map_drop,rI,List.length_append,List.length_map,List.length_take,List.length_drop] at h))))|omega|((first|(refine aE hX hC hP [(10000,10000)] (bz g hl f x iW hp1) rfl rfl rfl ?_ ?_ ?_ ?_ ?_ ?_ rfl rfl ?_ ?_;(focus (simp only [go_sem,simprocAttr,hb,hs,hS,nF,htr,List.map_append,List.map_cons,List.map_nil,List.map_take,List.map_drop,rI,List.length_append,List.length_map,List.length_take,List.length_drop];done));(iterate 6 (focus (simp [go_sem,simprocAttr,hb,hs,hS,nF,htr,List.map_append,List.map_cons,List.map_nil,List.map_take,List.map_drop,rI,List.length_append,List.length_map,List.length_take,List.length_drop];done)));simp only [go_sem,simprocAttr,hb,hs,hS,nF,htr,List.map_append,List.map_cons,List.map_nil,List.map_take,List.map_drop,rI,List.length_append,List.length_map,List.length_take,List.length_drop,List.map_cons,List.map_nil])|refine aa hX hC hP (aW g x true hl) rfl rfl rfl (by simp only [go_sem,simprocAttr,hb,hs,hS,nF,htr,List.map_append,List.map_cons,List.map_nil,List.map_take,List.map_drop,rI,List.length_append,List.length_map,List.length_take,List.length_drop]) rfl ?_|refine aa hX hC hP (bk outs ((bw g x).getD k 0) sx) rfl rfl rfl (by simp only [go_sem,simprocAttr,hb,hs,hS,nF,htr,List.map_append,List.map_cons,List.map_nil,List.map_take,List.map_drop,rI,List.length_append,List.length_map,List.length_take,List.length_drop]) rfl ?_);try simp only [go_sem,simprocAttr,hb,hs,hS,nF,htr,List.map_append,List.map_cons,List.map_nil,List.map_take,List.map_drop,rI,List.length_append,List.length_map,List.length_take,List.length_drop])|(intro h))
end Go.Ab
end
section
namespace Go.Ab
open Go.Proofs
attribute [local congr] ACall.congr
set_option maxRecDepth 10000
set_option maxHeartbeats 4000000
def vI (ls:List (List Int)):List (List D):=ls.map fun l=> [sI l]
theorem vI_length {ls:List (List Int)} :(vI ls).length=ls.length:=by simp [vI]
theorem lF {ls:List (List Int)} {k:Nat} (h:k<ls.length) (d:List D):(vI ls).getD k d= [sI (ls.getD k [])]:=by
 simp [vI,List.getD_eq_getElem?_getD,List.getElem?_eq_getElem h]
attribute [go_sem] vI_length
def zh (l:List Int) (i:Nat):List Int:=l.take i++l.drop (i+1)
def D6:Nat→List Int→List (List Int)
 |0,_=> [[]]
 |n+1,l=>(List.range l.length).flatMap fun i=>(D6 n (zh l i)).map fun t=>l.getD i 0::t
def LZ (n:Nat) (l:List Int) (k:Nat):List (List Int):=(List.range k).flatMap fun i=>(D6 n (zh l i)).map fun t=>l.getD i 0::t
def L0:Nat→Nat
 |0=>1
 |n+1=>(n+1)*L0 n
end Go.Ab
end
section
namespace Go.Ab
open Go.Proofs
attribute [local congr] ACall.congr
set_option maxRecDepth 10000
set_option maxHeartbeats 8000000
def HI (g:Gr):Nat→Fr→Bool
 |0,f=>decide ((f.pl.length:Int)=g.n)
 |m+1,f=>decide ((f.pl.length:Int)=g.n)||(List.range g.n.toNat).any fun x=>aq g f (x:Int)&&(D6 (bw g (x:Int)).length (bw g (x:Int))).any fun o=>HI g m (au g f (x:Int) o).2
def L1 (g:Gr) (m:Nat) (f:Fr) (x:Nat):Bool:=aq g f (x:Int)&&(D6 (bw g (x:Int)).length (bw g (x:Int))).any fun o=>HI g m (au g f (x:Int) o).2
theorem tB {g:Gr} {f:Fr} {x:Int} {o:List Int} :(au g f x o).2.row.length≤f.row.length+o.length+1∧(au g f x o).2.pl.length=f.pl.length+1:=by
 obtain ⟨a,b,ha,hb,hab,qg⟩:=tw f.row x
 have:=j5 (g:=g) (x:=x) (outs:=o)
 have e:au g f x o=(((f.row.take b).drop a,0),⟨f.row.take a++aM g x o++f.row.drop b,f.pl++ [x]⟩):=by
  simp only [au,ha,hb,Int.toNat_natCast]
 rw [e]
 refine ⟨?_,by simp⟩
 show (f.row.take a++aM g x o++f.row.drop b).length≤_
 rw [List.length_append,List.length_append,List.length_take,List.length_drop]
 omega
end Go.Ab
end
section
namespace Go.Ab
open Go.Proofs
attribute [local congr] ACall.congr
set_option maxRecDepth 10000
set_option maxHeartbeats 4000000
theorem rD (g:Gr) (hl:g.es.length≤9223372036854775807) (hm:aL g=false):Spec Tryz.prog 104 (Args [eG g]) [] (.tup [eN (fN g).1,eN (fN g).2.1, .d (sI (fN g).2.2)]) []:=by
 (refine Spec.intro (C:=T.cfg [] []) (rs:= [.t 2, .t 3, .t 4]) (T.ai _ _) Tryz.func104 rfl rfl Tryz.ntmps104 Tryz.results104 (by simp [AObj.isNest]) (by simp [AObj.isNest]) (by kernel_rfl) ?_;intro X hX hP hC aH aI vals hA;refine ⟨_,by simp,hA, ?_⟩;have af:X.P.follows .mixedOrders=true:=(by rw [hP];exact T.mixed);clear aH aI)
 repeat' (first|((first|((with_reducible (first|apply oA|apply oB));exact rfl;intro K hK)|(refine hK _ ?_;clear hK K)|((with_reducible (first|apply oG|apply oH));iterate 3 exact rfl)|((with_reducible apply oI);(iterate 2 exact rfl);intro K hK)|(with_reducible (first|apply wI|apply wJ|apply wK)));try simp only [go_sem,simprocAttr,hm])|(with_reducible (first|apply oC|apply oJ|exact oK|apply wA|apply wB|apply wC hX hC|apply wD hX hC|apply wE hX hC af|apply wF hX hC af|apply wG|apply wH|apply And.intro))|((with_reducible refine oD ?_ ?_);kernel_rfl)|((with_reducible (first|apply oE|apply oF));(iterate 3 exact rfl);all_goals (intro h;first|(exact absurd h (by decide))|((try simp only [go_sem,simprocAttr,hm] at h);(try with_reducible intro K hK);simp only [go_sem,simprocAttr,hm])))|((first|((with_reducible apply wL);exact rfl)|((with_reducible apply wM);exact rfl));all_goals (try ((with_reducible intro h);first|(exact absurd h (by decide))|(try simp only [go_sem,simprocAttr,hm] at h))))|omega|((first|refine aa hX hC hP (cM g hl) rfl rfl rfl (by simp only [go_sem,simprocAttr,hm]) rfl ?_);try simp only [go_sem,simprocAttr,hm])|(intro h))
 all_goals simp [fN,gN,hm]
theorem rH (g:Gr) (hl:g.es.length≤9223372036854775807):Spec Tryz.prog 104 (Args [eG g]) [] (.tup [eN (fN g).1,eN (fN g).2.1, .d (sI (fN g).2.2)]) []:=by
 cases hm:aL g with
 |false=>exact rD g hl hm
 |true=>exact sH g (by have:=aR hm;omega)
theorem aS (g:Gr) (hl:g.es.length≤9223372036854775807):Spec Tryz.prog 52 (Args [eG g]) [] (eB (decide ((cA g).1=0))) []:=by
 rw [FK]
 (refine Spec.intro (C:=T.cfg [] []) (rs:= [.t 2]) (T.ai _ _) Tryz.func52 rfl rfl Tryz.ntmps52 Tryz.results52 (by simp [AObj.isNest]) (by simp [AObj.isNest]) (by kernel_rfl) ?_;intro X hX hP hC aH aI vals hA;refine ⟨_,by simp,hA, ?_⟩;have af:X.P.follows .mixedOrders=true:=(by rw [hP];exact T.mixed);clear aH aI)
 repeat' (first|((first|((with_reducible (first|apply oA|apply oB));exact rfl;intro K hK)|(refine hK _ ?_;clear hK K)|((with_reducible (first|apply oG|apply oH));iterate 3 exact rfl)|((with_reducible apply oI);(iterate 2 exact rfl);intro K hK)|(with_reducible (first|apply wI|apply wJ|apply wK)));try simp only [go_sem,simprocAttr])|(with_reducible (first|apply oC|apply oJ|exact oK|apply wA|apply wB|apply wC hX hC|apply wD hX hC|apply wE hX hC af|apply wF hX hC af|apply wG|apply wH|apply And.intro))|((with_reducible refine oD ?_ ?_);kernel_rfl)|((with_reducible (first|apply oE|apply oF));(iterate 3 exact rfl);all_goals (intro h;first|(exact absurd h (by decide))|((try simp only [go_sem,simprocAttr] at h);(try with_reducible intro K hK);simp only [go_sem,simprocAttr])))|((first|((with_reducible apply wL);exact rfl)|((with_reducible apply wM);exact rfl));all_goals (try ((with_reducible intro h);first|(exact absurd h (by decide))|(try simp only [go_sem,simprocAttr] at h))))|omega|((first|refine aa hX hC hP (rH g hl) rfl rfl rfl (by simp only [go_sem,simprocAttr]) rfl ?_);try simp only [go_sem,simprocAttr])|(intro h))
end Go.Ab
end
section
namespace Go.Ab
open Go.Proofs
attribute [local congr] ACall.congr
set_option maxRecDepth 10000
set_option maxHeartbeats 4000000
def g9:Gr:=⟨3, [(0,1),(0,2),(1,2)]⟩
def M7:Fr:=⟨[], []⟩
def M8:Fr:=⟨[(0,0,1),(1,0,2)], [0]⟩
def M9:Fr:=⟨[(2,1,2),(1,0,2)], [0,1]⟩
def Na:Fr:=⟨[(-1,2, -1)], [0,1,2]⟩
end Go.Ab
end
section
namespace Go.Ab
open Go.Proofs
set_option maxRecDepth 10000
def AE (g:Gr) (t:It):Prop:=(t.1= -1∧t.2.2= -1)∨(0≤t.1∧t.1<g.es.length∧t.2.1=(g.es.getD t.1.toNat (0,0)).1∧t.2.2=(g.es.getD t.1.toNat (0,0)).2)
structure dJ (g:Gr) (f:Fr):Prop where
 it:∀t∈f.row,AE g t
 pl:f.pl.Nodup
 CG:∀x∈f.pl,0≤x∧x<g.n
theorem jA {row:List It} {x:Int} :∀k:Nat,(cF row x k).2.2=fz row x k
 |0=>rfl
 |k+1=>by
  rw [iF,dY]
  split
  ·show (cF row x k).2.2+1=_
   rw [jA k]
  ·exact jA k
theorem ot {row:List It} {x:Int} {j:Nat} :∀d:Nat,fz row x j≤fz row x (j+d)
 |0=>Int.le_refl _
 |d+1=>by
  have:=ot (row:=row) (x:=x) (j:=j) d
  rw [← Nat.add_assoc,dY]
  split<;>omega
theorem jB {row:List It} {x:Int} :∀ {k:Nat},(∀j,j<k→(row.getD j (0,0,0)).2.2≠x)→fz row x k=0
 |0,_=>rfl
 |k+1,h=>by
  rw [dY,if_neg (h k (by omega))]
  exact jB fun j hj=>h j (by omega)
theorem ou {row:List It} {x:Int} {b:Nat} :∀ {d:Nat},(∀j,b≤j→j<b+d→(row.getD j (0,0,0)).2.2≠x)→fz row x (b+d)=fz row x b
 |0,_=>rfl
 |d+1,h=>by
  rw [← Nat.add_assoc,dY,if_neg (h (b+d) (by omega) (by omega))]
  exact ou fun j h1 h2=>h j h1 (by omega)
theorem fY {f:Edge→Int} {g:Gr} {x:Int} (h0:0≤x) (h1:x<g.n):bp f g x=aZ f g.es g.es.length x:=if_pos ⟨h0,h1⟩
theorem ow {g:Gr} {e:Int} (h0:0≤e) (h1:e<g.es.length):0<bf g (g.es.getD e.toNat (0,0)).2:=by
 refine List.length_pos_iff.2 fun h=> ?_
 have hm:e∈aZ (·.2) g.es g.es.length (g.es.getD e.toNat (0,0)).2:=by
  simp only [aZ,List.mem_map,List.mem_filter,List.mem_range,decide_eq_true_eq]
  exact ⟨e.toNat,⟨by omega,rfl⟩,by simp;omega⟩
 rw [h] at hm;cases hm
theorem tC {row:List It} {p:It→Bool} {a b:Nat} (hb:b≤row.length):((row.take b).drop a).any p=true↔∃j,a≤j∧j<b∧p (row.getD j (0,0,0))=true:=by
 rw [List.any_eq_true]
 constructor
 ·rintro ⟨t,ht,hp⟩
  obtain ⟨k,hk,rfl⟩:=List.mem_iff_getElem.1 ht
  simp only [List.length_drop,List.length_take] at hk
  refine ⟨a+k,by omega,by omega, ?_⟩
  rw [List.getD_eq_getElem?_getD,List.getElem?_eq_getElem (show a+k<row.length by omega)]
  simpa using hp
 ·rintro ⟨j,h1,h2,hp⟩
  rw [List.getD_eq_getElem?_getD,List.getElem?_eq_getElem (show j<row.length by omega)] at hp
  refine ⟨row[j], ?_,hp⟩
  refine List.mem_iff_getElem.2 ⟨j - a,by simp;omega, ?_⟩
  simp only [List.getElem_drop,List.getElem_take]
  congr 1;omega
theorem AE.head {g:Gr} (hm:aL g=true) {t:It} (h:AE g t):(0≤t.1↔t.2.2≠ -1)∧ -1≤t.2.2:=by
 rcases h with ⟨h1,h2⟩|⟨h1,h2,_,h4⟩
 ·omega
 ·obtain ⟨_,h5,_⟩:=ee hm (k:=t.1.toNat) (by omega)
  omega
theorem gB {g:Gr} (hm:aL g=true) {f:Fr} (hi:dJ g f) (x:Int):dU g f x=aq g f x:=by
 by_cases hx:x<0∨g.n≤x∨x∈f.pl
 ·rw [dU,aq,if_pos hx,if_pos hx]
 rw [dU,aq,if_neg hx,if_neg hx]
 have hx0:0≤x∧x<g.n:=by
  constructor
  ·exact Int.not_lt.1 fun h=>hx (.inl h)
  ·exact Int.not_le.1 fun h=>hx (.inr (.inl h))
 have hmem:∀j,j<f.row.length→AE g (f.row.getD j (0,0,0)):=fun j hj=>hi.it _ (bS hj)
 rw [fY hx0.1 hx0.2]
 have hN:(aZ (fun e=>e.2) g.es g.es.length x).length=bf g x:=rfl
 rw [hN]
 have FM:(aV f.row x).2.2=fz f.row x f.row.length:=jA _
 by_cases h0:bf g x=0
 ·rw [if_pos h0,h0,decide_eq_true rfl,Bool.true_or,Bool.and_true,decide_eq_true_eq,FM,jB]
  ·rfl
  ·intro j hj he
   rcases hmem j hj with ⟨_,h2⟩|⟨h1,h2,_,h4⟩
   ·omega
   ·have:=ow h1 h2
    rw [← h4,he] at this
    omega
 ·rw [if_neg h0,decide_eq_false h0,Bool.false_or,FM]
  generalize bf g x=need at h0
  rcases cP (row:=f.row) (x:=x) f.row.length with ⟨hs,hno⟩|⟨a,b,c,hs,hab,qg,hc0,dI,ha,hb,hlo,hhi⟩
  ·rw [jB hno]
   have e1:decide ((0:Int)=(need:Int))=false:=decide_eq_false (by omega)
   rw [e1,Bool.false_and,Bool.and_false]
  ·have hs':aV f.row x=((a:Int),(b:Int),(c:Int)):=hs
   have KE:fz f.row x f.row.length=c:=by rw [← FM,hs']
   rw [hs',KE]
   simp only [Int.toNat_natCast]
   rw [Bool.and_comm]
   by_cases Gz:¬(c:Int)=need
   ·rw [decide_eq_false Gz,Bool.and_false,Bool.and_false]
   rw [Decidable.not_not] at Gz
   rw [decide_eq_true Gz,Bool.and_true,Bool.and_true,o6]
   congr 1
   rw [Bool.eq_iff_iff,tC qg,List.any_eq_true]
   have ma:fz f.row x a=0:=jB hlo
   have Nb:fz f.row x (a+1)=1:=by rw [dY,if_pos ha,ma];rfl
   have mb:fz f.row x b=need:=by
    have h:=ou (row:=f.row) (x:=x) (b:=b) (d:=f.row.length - b) fun j h1 h2=>hhi j h1 (by omega)
    rw [show b+(f.row.length - b)=f.row.length by omega,KE] at h
    omega
   have Nc:fz f.row x (b - 1)+1=need:=by
    have h:=dY (row:=f.row) (x:=x) (k:=b - 1)
    rw [if_pos hb,show b - 1+1=b by omega,mb] at h
    omega
   constructor
   ·rintro ⟨j,h1,h2,hp⟩
    simp only [j4,Bool.and_eq_true,decide_eq_true_eq] at hp
    have hja:j≠a:=fun e=>hp.1 (by rw [e];exact ha)
    have hjb:j≠b - 1:=fun e=>hp.1 (by rw [e];exact hb)
    have g1:=ot (row:=f.row) (x:=x) (j:=a+1) (j - (a+1))
    rw [show a+1+(j - (a+1))=j by omega] at g1
    have g2:=ot (row:=f.row) (x:=x) (j:=j) (b - 1 - j)
    rw [show j+(b - 1 - j)=b - 1 by omega] at g2
    exact ⟨j,List.mem_range.2 (by omega),lE.2 ⟨⟨hp.1,((hmem j (by omega)).head hm).1.2 hp.2⟩,by omega,by omega⟩⟩
   ·rintro ⟨j,hj,hl⟩
    have hj:=List.mem_range.1 hj
    obtain ⟨⟨h1,h2⟩,h3,h4⟩:=lE.1 hl
    refine ⟨j, ?_, ?_, ?_⟩
    ·refine Nat.not_lt.1 fun h=> ?_
     have:=jB (row:=f.row) (x:=x) (k:=j) fun i hi=>hlo i (by omega)
     omega
    ·refine Nat.not_le.1 fun h=> ?_
     have:=ou (row:=f.row) (x:=x) (b:=b) (d:=j - b) fun i h1 h2=>hhi i h1 (by omega)
     rw [show b+(j - b)=j by omega] at this
     omega
    ·simp only [j4,Bool.and_eq_true,decide_eq_true_eq]
     exact ⟨h1,((hmem j hj).head hm).1.1 h2⟩
theorem nG:∀ {ms os:List Int},ms.Nodup→(∀i∈ms,i∈os)→os.length=ms.length→os.Perm ms
 | [],os,_,_,hl=>by
   have h:os= []:=List.eq_nil_of_length_eq_zero (by simpa using hl)
   rw [h]
 |m::ms,os,hn,hs,hl=>by
  rw [List.nodup_cons] at hn
  have hm:=hs m (List.mem_cons_self ..)
  refine (List.perm_cons_erase hm).trans (List.Perm.cons m (nG hn.2 (fun j hj=> ?_) ?_))
  ·have:j≠m:=fun e=>hn.1 (e ▸ hj)
   exact (List.mem_erase_of_ne this).2 (hs j (List.mem_cons_of_mem _ hj))
  ·rw [List.length_erase_of_mem hm,hl];simp
theorem o7 {g:Gr} {x:Int} :(bw g x).Pairwise (· ≤ ·):=by
 unfold bw aZ
 refine List.Pairwise.map _ (fun a b (h:a<b)=> ?_) (List.Pairwise.filter _ List.pairwise_lt_range)
 show (a:Int)≤b
 omega
theorem rJ {l m:List Int} (h:l.Perm m) (hm:m.Pairwise (· ≤ ·)):gM l=m:=by
 have h1:(gM l).Pairwise (· ≤ ·):=by
  have:=List.pairwise_mergeSort (le:=fun a b:Int=>decide (a≤b)) (by simp;omega) (by simp;omega) l
  simpa [gM] using this
 have h2:(gM l).Perm m:=(by unfold gM;exact (List.mergeSort_perm l _).trans h)
 exact h2.eq_of_pairwise (fun a b _ _ h1 h2=>Int.le_antisymm h1 h2) h1 hm
theorem aB {g:Gr} {f:Fr} {x:Int} (h:aq g f x=true):0≤x∧x<g.n∧x∉f.pl:=by
 unfold aq at h
 by_cases hx:x<0∨g.n≤x∨x∈f.pl
 ·rw [if_pos hx] at h;cases h
 ·exact ⟨Int.not_lt.1 fun h=>hx (.inl h),Int.not_le.1 fun h=>hx (.inr (.inl h)),fun h=>hx (.inr (.inr h))⟩
theorem CH {g:Gr} (hm:aL g=true) {f:Fr} (hi:dJ g f) (x:Int) (outs:List Int):iZ g f x outs=cx g f x outs:=by
 rw [iZ,cx,gB hm hi]
 cases hR:aq g f x with
 |false=>rw [if_pos rfl,if_pos rfl]
 |true=>
  obtain ⟨h0,h1,h2⟩:=aB hR
  have ht:¬(true=false):=by simp
  rw [if_neg ht,if_neg ht,fY h0 h1]
  show (if gM outs≠bw g x then _ else au g f x outs)=_
  by_cases hs:gM outs=bw g x
  ·rw [if_neg (fun h=>h hs),if_neg]
   rintro (h|⟨i,h3,h4⟩)
   ·exact h (by rw [← hs,eP])
   ·exact h4 (wT.1 (hs ▸ h3))
  ·rw [if_pos hs,if_pos]
   refine Decidable.byContradiction fun h=>hs ?_
   have hl:outs.length=(bw g x).length:=Decidable.byContradiction fun e=>h (.inl e)
   exact rJ (nG dw (fun i hi=>Decidable.byContradiction fun e=>h (.inr ⟨i,hi,e⟩)) hl) o7
theorem CI {g:Gr} {x:Int} {outs:List Int} (ho:∀i∈outs,i∈bw g x):∀t∈aM g x outs,AE g t:=by
 intro t ht
 unfold aM at ht
 split at ht
 ·rw [List.mem_singleton] at ht
  rw [ht];exact .inl ⟨rfl,rfl⟩
 ·obtain ⟨i,hi,rfl⟩:=List.mem_map.1 ht
  obtain ⟨⟨h1,h2⟩,h3⟩:=ir (ho i hi)
  exact .inr ⟨h1,h2,h3.symm,rfl⟩
theorem CJ {g:Gr} {f:Fr} (hi:dJ g f) {x:Int} (hR:aq g f x=true) {outs:List Int} (ho:∀i∈outs,i∈bw g x):dJ g (au g f x outs).2:=by
 obtain ⟨h0,h1,h2⟩:=aB hR
 refine ⟨fun t ht=> ?_, ?_,fun y hy=> ?_⟩
 ·simp only [au,List.mem_append] at ht
  rcases ht with (ht|ht)|ht
  ·exact hi.it t (List.mem_of_mem_take ht)
  ·exact CI ho t ht
  ·exact hi.it t (List.mem_of_mem_drop ht)
 ·show (f.pl++ [x]).Nodup
  rw [List.nodup_append]
  refine ⟨hi.pl,by simp,fun a ha b hb e=>h2 ?_⟩
  rw [List.mem_singleton] at hb
  rw [← hb, ← e];exact ha
 ·have hy:y∈f.pl++ [x]:=hy
  rcases List.mem_append.1 hy with h|h
  ·exact hi.CG y h
  ·rw [List.mem_singleton] at h
   rw [h];exact ⟨h0,h1⟩
end Go.Ab
end
section
namespace Go.Ab
open Go.Proofs
set_option maxRecDepth 10000
def kA (x:Int) (t:It):Bool:=decide (t.2.2=x)
structure AF (x:Int) (X:List It):Prop where
 fst:∃p X',X=p::X'∧p.2.2=x
 Cb:∃X' q,X=X'++ [q]∧q.2.2=x
 al:∀t∈X,t.2.2=x∨t.2.2= -1
def eW (x:Int) (l:List It):Prop:=∀t∈l,t.2.2≠x
theorem eW.app {x:Int} {l m:List It} (h:eW x l) (h':eW x m):eW x (l++m):=fun t ht=>(List.mem_append.1 ht).elim (h t) (h' t)
theorem eW.left {x:Int} {l m:List It} (h:eW x (l++m)):eW x l:=fun t ht=>h t (List.mem_append.2 (.inl ht))
theorem eW.right {x:Int} {l m:List It} (h:eW x (l++m)):eW x m:=fun t ht=>h t (List.mem_append.2 (.inr ht))
theorem AF.KF {x y:Int} {X:List It} (h:AF x X) (hxy:x≠y) (hy:0≤y):eW y X:=fun t ht e=>by
 rcases h.al t ht with h1|h1<;>omega
theorem j6 {row:List It} {x:Int} :∀ {k:Nat},k≤row.length→fz row x k=((row.take k).countP (kA x):Nat)
 |0,_=>by simp [fz]
 |k+1,h=>by
  rw [dY,j6 (k:=k) (by omega),List.take_add_one,List.getElem?_eq_getElem (show k<row.length by omega),List.countP_append]
  simp only [Option.toList,List.countP_cons,List.countP_nil,kA,decide_eq_true_eq,List.getD_eq_getElem?_getD,List.getElem?_eq_getElem (show k<row.length by omega),Option.getD_some]
  split<;>simp
theorem AG {A X C:List It} {p:It} {X':List It} (h:X=p::X'):(A++X++C).getD A.length (0,0,0)=p:=by
 subst h;simp [List.getD_eq_getElem?_getD]
theorem AH {A X C:List It} {q:It} {X':List It} (h:X=X'++ [q]):(A++X++C).getD (A.length+X.length - 1) (0,0,0)=q:=by
 subst h
 have e:A.length+(X'++ [q]).length - 1=(A++X').length:=by simp
 rw [e,show A++(X'++ [q])++C=(A++X')++([q]++C) by simp]
 simp [List.getD_eq_getElem?_getD]
theorem AI {A L:List It} {j:Nat} (h:j<A.length):(A++L).getD j (0,0,0)∈A:=by
 rw [List.getD_eq_getElem?_getD,List.getElem?_append_left h,List.getElem?_eq_getElem h]
 exact List.getElem_mem h
theorem AJ {A L:List It} {j:Nat} (h:A.length≤j) (h':j<(A++L).length):(A++L).getD j (0,0,0)∈L:=by
 rw [List.length_append] at h'
 rw [List.getD_eq_getElem?_getD,List.getElem?_append_right h,List.getElem?_eq_getElem (by omega)]
 exact List.getElem_mem _
theorem zi {A X C:List It} {x:Int} (hA:eW x A) (hC:eW x C) (hX:AF x X):
 (aV (A++X++C) x).1=(A.length:Int)∧(aV (A++X++C) x).2.1=((A.length+X.length:Nat):Int)∧(aV (A++X++C) x).2.2=(X.countP (kA x):Nat):=by
 have z7:(aV (A++X++C) x).2.2=(X.countP (kA x):Nat):=by
  unfold aV
  rw [jA,j6 (Nat.le_refl _),List.take_length,List.countP_append,List.countP_append]
  have h1:A.countP (kA x)=0:=List.countP_eq_zero.2 fun t ht=>by simp [kA,hA t ht]
  have h2:C.countP (kA x)=0:=List.countP_eq_zero.2 fun t ht=>by simp [kA,hC t ht]
  rw [h1,h2];simp
 obtain ⟨p,X',e1,hp⟩:=hX.fst
 obtain ⟨Nd,q,e2,hq⟩:=hX.Cb
 have g1:=AG (A:=A) (C:=C) e1
 have g2:=AH (A:=A) (C:=C) e2
 have Gc:0<X.length:=by rw [e1];simp
 have hlen:(A++X++C).length=A.length+X.length+C.length:=by simp;omega
 rcases cP (row:=A++X++C) (x:=x) (A++X++C).length with ⟨_,hno⟩|⟨a,b,c,hs,hab,qg,hc0,dI,ha,hb,hlo,hhi⟩
 ·exact absurd (by rw [g1];exact hp) (hno A.length (by omega))
 ·have hs':aV (A++X++C) x=((a:Int),(b:Int),(c:Int)):=hs
  refine ⟨?_, ?_,z7⟩
  ·rw [hs']
   have h1:¬A.length<a:=fun h=>hlo _ h (by rw [g1];exact hp)
   have h2:¬a<A.length:=fun h=>hA _ (by have:=AI (L:=X++C) h;rw [← List.append_assoc] at this;exact this) ha
   simp only;omega
  ·rw [hs']
   have h1:¬b<A.length+X.length:=fun h=>hhi (A.length+X.length - 1) (by omega) (by omega) (by rw [g2];exact hq)
   have h2:¬A.length+X.length<b:=fun h=>hC _ (AJ (A:=A++X) (j:=b - 1) (by simp;omega) (by omega)) hb
   simp only;omega
theorem mE {g:Gr} (hm:aL g=true) {f:Fr} (hi:dJ g f) {A X C:List It} {x:Int} (h0:0≤x) (h1:x<g.n) (hp:x∉f.pl) (hr:f.row=A++X++C) (hA:eW x A) (hC:eW x C) (hX:AF x X)
 (hc:X.countP (kA x)=bf g x):aq g f x=true:=by
 rw [← gB hm hi,dU,if_neg (by rintro (h|h|h);omega;omega;exact hp h)]
 obtain ⟨e1,e2,e3⟩:=zi hA hC hX
 rw [hr,e1,e2,e3,fY h0 h1,Bool.and_eq_true,decide_eq_true_eq]
 refine ⟨by rw [hc];rfl, ?_⟩
 rw [Bool.or_eq_true];right
 simp only [o6,Int.toNat_natCast]
 rw [List.take_append_of_le_length (by simp),List.take_of_length_le (by simp),List.drop_left,Bool.not_eq_true',List.any_eq_false]
 intro t ht
 simp only [j4,Bool.and_eq_true,decide_eq_true_eq]
 rcases hX.al t ht with h|h<;>simp [h]
theorem b8 {g:Gr} (hm:aL g=true) {f:Fr} (hi:dJ g f) {x:Int} (hR:aq g f x=true) (hn:bf g x≠0):
 ∃A X C,f.row=A++X++C∧eW x A∧eW x C∧AF x X∧X.countP (kA x)=bf g x:=by
 obtain ⟨h0,h1,h2⟩:=aB hR
 rw [← gB hm hi,dU,if_neg (by rintro (h|h|h);omega;omega;exact h2 h),fY h0 h1,Bool.and_eq_true,decide_eq_true_eq] at hR
 have hN:(aZ (fun e=>e.2) g.es g.es.length x).length=bf g x:=rfl
 rw [hN,decide_eq_false hn,Bool.false_or] at hR
 obtain ⟨hc,hb⟩:=hR
 have z7:(f.row.countP (kA x):Int)=bf g x:=by
  rw [← hc];unfold aV
  rw [jA,j6 (Nat.le_refl _),List.take_length]
 rcases cP (row:=f.row) (x:=x) f.row.length with ⟨hs,hno⟩|⟨a,b,c,hs,hab,qg,hc0,dI,ha,hb',hlo,hhi⟩
 ·have:aV f.row x=(-1,0,0):=hs
  rw [this] at hc
  exfalso;simp only at hc;omega
 ·have hs':aV f.row x=((a:Int),(b:Int),(c:Int)):=hs
  rw [hs'] at hb
  simp only [Int.toNat_natCast] at hb
  have hA:eW x (f.row.take a):=fun t ht=>by
   obtain ⟨j,hj,rfl⟩:=List.mem_iff_getElem.1 ht
   simp only [List.length_take] at hj
   have:=hlo j (by omega)
   rw [List.getD_eq_getElem?_getD,List.getElem?_eq_getElem (show j<f.row.length by omega)] at this
   simpa using this
  have hC:eW x (f.row.drop b):=fun t ht=>by
   obtain ⟨j,hj,rfl⟩:=List.mem_iff_getElem.1 ht
   simp only [List.length_drop] at hj
   have:=hhi (b+j) (by omega) (by omega)
   rw [List.getD_eq_getElem?_getD,List.getElem?_eq_getElem (show b+j<f.row.length by omega)] at this
   simpa using this
  have hrow:f.row=f.row.take a++(f.row.take b).drop a++f.row.drop b:=by
   have e1:f.row.take a=(f.row.take b).take a:=by rw [List.take_take,Nat.min_eq_left (by omega)]
   rw [e1,List.take_append_drop,List.take_append_drop]
  refine ⟨f.row.take a,(f.row.take b).drop a,f.row.drop b,hrow,hA,hC,⟨?_, ?_, ?_⟩, ?_⟩
  ·refine ⟨f.row.getD a (0,0,0),(f.row.take b).drop (a+1), ?_,ha⟩
   rw [List.drop_eq_getElem_cons (by simp;omega)]
   congr 1
   rw [List.getD_eq_getElem?_getD,List.getElem?_eq_getElem (show a<f.row.length by omega)]
   simp
  ·refine ⟨(f.row.take (b - 1)).drop a,f.row.getD (b - 1) (0,0,0), ?_,hb'⟩
   have e:f.row.take b=f.row.take (b - 1)++ [f.row.getD (b - 1) (0,0,0)]:=by
    conv=>lhs;rw [show b=b - 1+1 by omega]
    rw [List.take_add_one,List.getD_eq_getElem?_getD,List.getElem?_eq_getElem (show b - 1<f.row.length by omega)]
    rfl
   rw [e,List.drop_append_of_le_length (by simp;omega)]
  ·intro t ht
   rw [o6,Bool.not_eq_true',List.any_eq_false] at hb
   have:=hb t ht
   simp only [j4,Bool.and_eq_true,decide_eq_true_eq,not_and] at this
   by_cases h:t.2.2=x
   ·exact .inl h
   ·exact .inr (Decidable.byContradiction fun h'=>this h h')
  ·have h1:(f.row.take a).countP (kA x)=0:=List.countP_eq_zero.2 fun t ht=>by simp [kA,hA t ht]
   have h2:(f.row.drop b).countP (kA x)=0:=List.countP_eq_zero.2 fun t ht=>by simp [kA,hC t ht]
   rw [hrow,List.countP_append,List.countP_append,h1,h2] at z7
   omega
theorem gW {g:Gr} {f:Fr} {A X C:List It} {x:Int} (o:List Int) (hr:f.row=A++X++C) (hA:eW x A) (hC:eW x C) (hX:AF x X):
 au g f x o=((X,0),⟨A++aM g x o++C,f.pl++ [x]⟩):=by
 obtain ⟨e1,e2,e3⟩:=zi hA hC hX
 have e4:max (A.length:Int) 0=(A.length:Int):=by omega
 unfold au
 rw [hr,e1,e2,e4,Int.toNat_natCast,Int.toNat_natCast]
 rw [List.take_append_of_le_length (show A.length+X.length≤(A++X).length by simp),List.take_of_length_le (show (A++X).length≤A.length+X.length by simp),List.drop_left]
 rw [show (A++X++C).take A.length=A by rw [List.append_assoc,List.take_left]]
 rw [show (A++X++C).drop (A.length+X.length)=C by rw [← List.length_append,List.drop_left]]
theorem iu {g:Gr} {f:Fr} {x:Int} (o:List Int) (hr:eW x f.row):au g f x o=(([],0),⟨aM g x o++f.row,f.pl++ [x]⟩):=by
 have hs:aV f.row x=(-1,0,0):=by
  rcases cP (row:=f.row) (x:=x) f.row.length with ⟨hs,_⟩|⟨a,b,c,hs,hab,qg,hc0,dI,ha,hb',hlo,hhi⟩
  ·exact hs
  ·exact absurd ha (hr _ (bS (by omega)))
 have e4:max (-1:Int) 0=0:=by omega
 unfold au
 rw [hs]
 simp [e4]
end Go.Ab
end
section
namespace Go.Ab
open Go.Proofs
set_option maxRecDepth 10000
structure sr (g:Gr) (f:Fr):Prop extends dJ g f where
 tail:∀t∈f.row,0≤t.1→t.2.1∈f.pl
 head:∀t∈f.row,0≤t.1→t.2.2∉f.pl
 once:f.row.Pairwise fun s t=>0≤s.1→s.1≠t.1
 low:∀i,i<g.es.length→hd g i∈f.pl→tl g i∈f.pl
 src:(f.pl= []∧f.row= [])∨∃s∈f.pl,bf g s=0
theorem u6 (g:Gr):sr g ⟨[], []⟩:=
 {it:=by simp,pl:=by simp,CG:=by simp,tail:=by simp,head:=by simp,once:=by simp,low:=by simp,src:= .inl ⟨rfl,rfl⟩}
theorem u7 {g:Gr} (hm:aL g=true) {f:Fr} (hi:sr g f) {x:Int} (hR:aq g f x=true) {i:Nat} (hl:i<g.es.length) (hx:hd g i=x):∃t∈f.row,t.1=i∧t.2.1=tl g i∧t.2.2=x:=by
 have hn:bf g x≠0:=by
  have:=ow (g:=g) (e:=(i:Int)) (by omega) (by omega)
  rw [Int.toNat_natCast,show (g.es.getD i (0,0)).2=x from hx] at this
  omega
 obtain ⟨A,X,C,hr,hA,hC,hX,hc⟩:=b8 hm hi.todJ hR hn
 have hN:(aZ (fun e=>e.2) g.es g.es.length x).length=bf g x:=rfl
 have hok:∀t∈f.row,t.2.2=x→0≤t.1∧t.1<g.es.length∧t.2.1=(g.es.getD t.1.toNat (0,0)).1∧t.2.2=(g.es.getD t.1.toNat (0,0)).2:=fun t ht he=>by
  rcases hi.it t ht with ⟨_,h2⟩|h
  ·have:=(aB hR).1;omega
  ·exact h
 have hmem:∀t∈X,t∈f.row:=fun t ht=>by rw [hr];simp [ht]
 have KG:=nG (ms:=(X.filter (kA x)).map (·.1)) (os:=aZ (fun e=>e.2) g.es g.es.length x)
 have key:∀i∈aZ (fun e=>e.2) g.es g.es.length x,i∈(X.filter (kA x)).map (·.1):=by
  refine u5 (ms:=(X.filter (kA x)).map (·.1)) (os:=aZ (fun e=>e.2) g.es g.es.length x) ?_ ?_ ?_
  ·have h1:X.Pairwise fun s t=>0≤s.1→s.1≠t.1:=by
    have:=hi.once
    rw [hr,List.pairwise_append,List.pairwise_append] at this
    exact this.1.2.1
   have h2:=h1.filter (kA x)
   rw [List.Nodup,List.pairwise_map]
   refine h2.imp_of_mem fun {a b} ha hb h=>h ?_
   obtain ⟨L2,L3⟩:=List.mem_filter.1 ha
   exact (hok a (hmem a L2) (by simpa [kA] using L3)).1
  ·intro e he
   obtain ⟨t,ht,rfl⟩:=List.mem_map.1 he
   obtain ⟨ht1,ht2⟩:=List.mem_filter.1 ht
   have ht2:t.2.2=x:=by simpa [kA] using ht2
   obtain ⟨h1,h2,h3,h4⟩:=hok t (hmem t ht1) ht2
   simp only [aZ,List.mem_map,List.mem_filter,List.mem_range,decide_eq_true_eq]
   exact ⟨t.1.toNat,⟨by omega,by rw [← h4];exact ht2⟩,by simp;omega⟩
  ·rw [hN, ← hc,List.length_map,List.countP_eq_length_filter]
 have hie:(i:Int)∈aZ (fun e=>e.2) g.es g.es.length x:=by
  simp only [aZ,List.mem_map,List.mem_filter,List.mem_range,decide_eq_true_eq]
  exact ⟨i,⟨hl,hx⟩,rfl⟩
 obtain ⟨t,ht,he⟩:=List.mem_map.1 (key _ hie)
 obtain ⟨ht1,ht2⟩:=List.mem_filter.1 ht
 have ht2:t.2.2=x:=by simpa [kA] using ht2
 obtain ⟨h1,h2,h3,h4⟩:=hok t (hmem t ht1) ht2
 refine ⟨t,hmem t ht1,he, ?_,ht2⟩
 rw [h3,he,Int.toNat_natCast];rfl
theorem rK {g:Gr} (hm:aL g=true) {f:Fr} (hi:dJ g f) {x:Int} (h0:0≤x) (hn:bf g x=0):eW x f.row:=by
 intro t ht he
 rcases hi.it t ht with ⟨_,h2⟩|⟨h1,h2,_,h4⟩
 ·omega
 ·have:=ow h1 h2
  rw [← h4,he] at this
  omega
theorem mF {g:Gr} (hm:aL g=true) {f:Fr} (hi:dJ g f) {x:Int} (hR:aq g f x=true):
 ∃A X C,f.row=A++X++C∧eW x A∧eW x C∧(∀t∈X,t.2.2=x∨t.2.2= -1)∧∀o,au g f x o=((X,0),⟨A++aM g x o++C,f.pl++ [x]⟩):=by
 by_cases hn:bf g x=0
 ·have h:=rK hm hi (aB hR).1 hn
  exact ⟨[], [],f.row,by simp,fun t ht=>(by cases ht),h,fun t ht=>(by cases ht),fun o=>by rw [iu o h];simp⟩
 ·obtain ⟨A,X,C,hr,hA,hC,hX,_⟩:=b8 hm hi hR hn
  exact ⟨A,X,C,hr,hA,hC,hX.al,fun o=>gW o hr hA hC hX⟩
theorem jC {g:Gr} {x i:Int} (h:i∈bw g x):∃k:Nat,i=k∧k<g.es.length∧tl g k=x:=by
 obtain ⟨⟨h1,h2⟩,h3⟩:=ir h
 exact ⟨i.toNat,by omega,by omega,h3⟩
theorem jD {g:Gr} {x:Int} {o:List Int} (ho:∀i∈o,i∈bw g x) {t:It} (h:t∈aM g x o):(t.1= -1∧t.2.2= -1)∨∃k:Nat,k<g.es.length∧t.1=k∧t.2.1=x∧t.2.2=hd g k∧tl g k=x∧t.1∈o:=by
 unfold aM at h
 split at h
 ·rw [List.mem_singleton] at h
  rw [h];exact .inl ⟨rfl,rfl⟩
 ·obtain ⟨i,KH,rfl⟩:=List.mem_map.1 h
  obtain ⟨k,rfl,h1,h2⟩:=jC (ho i KH)
  exact .inr ⟨k,h1,rfl,rfl,by simp [fq];rfl,h2,KH⟩
theorem ox {g:Gr} (hm:aL g=true) {f:Fr} (hi:sr g f) {x y:Int} (hx:x∉f.pl) (hR:aq g f y=true) {o:List Int} (ho:∀i∈o,i∈bw g x):eW y (aM g x o):=by
 intro t ht he
 rcases jD ho ht with ⟨_,h⟩|⟨k,h1,h2,h3,h4,h5,_⟩
 ·have:=(aB hR).1;omega
 ·obtain ⟨s,hs,e1,e2,e3⟩:=u7 hm hi hR h1 (by rw [← h4];exact he)
  refine hx ?_
  rw [← h5, ← e2]
  exact hi.tail s hs (by omega)
theorem gC {g:Gr} (hm:aL g=true) {f:Fr} (hi:sr g f) {x:Int} (hR:aq g f x=true) {o:List Int} (ho:o.Perm (bw g x)):sr g (au g f x o).2:=by
 have D3:∀i∈o,i∈bw g x:=fun i h=>ho.mem_iff.1 h
 have hx:=(aB hR).2.2
 have h0:=CJ hi.todJ hR D3
 obtain ⟨A,X,C,hr,hA,hC,hX,hs⟩:=mF hm hi.todJ hR
 have fA:(au g f x o).2.pl=f.pl++ [x]:=rfl
 have hrow:(au g f x o).2.row=A++aM g x o++C:=by rw [hs o]
 have JK:∀t∈A,t∈f.row:=fun t ht=>by rw [hr];simp [ht]
 have JL:∀t∈C,t∈f.row:=fun t ht=>by rw [hr];simp [ht]
 have HJ:=ox hm hi hx hR D3
 refine {todJ:=h0,tail:= ?_,head:= ?_,once:= ?_,low:= ?_,src:= .inr ?_}
 ·intro t ht h1
  rw [fA]
  rw [hrow,List.mem_append,List.mem_append] at ht
  rcases ht with (ht|ht)|ht
  ·exact List.mem_append_left _ (hi.tail t (JK t ht) h1)
  ·rcases jD D3 ht with ⟨h,_⟩|⟨k,_,_,h3,_⟩
   ·omega
   ·rw [h3];simp
  ·exact List.mem_append_left _ (hi.tail t (JL t ht) h1)
 ·intro t ht h1
  rw [fA,List.mem_append,List.mem_singleton]
  rw [hrow,List.mem_append,List.mem_append] at ht
  rcases ht with (ht|ht)|ht
  ·rintro (h|h)
   ·exact hi.head t (JK t ht) h1 h
   ·exact hA t ht h
  ·rintro (h|h)
   ·rcases jD D3 ht with ⟨h',_⟩|⟨k,hk,_,_,h4,h5,_⟩
    ·omega
    ·rw [h4] at h
     have:=hi.low k hk h
     rw [h5] at this;exact hx this
   ·exact HJ t ht h
  ·rintro (h|h)
   ·exact hi.head t (JL t ht) h1 h
   ·exact hC t ht h
 ·have vA:=hi.once
  rw [hr,List.pairwise_append,List.pairwise_append] at vA
  obtain ⟨⟨L4,_,_⟩,L5,JM⟩:=vA
  have old:∀s∈f.row,0≤s.1→∀t∈aM g x o,s.1≠t.1:=fun s hs h1 t ht e=>by
   rcases jD D3 ht with ⟨h,_⟩|⟨k,hk,h2,h3,h4,h5,_⟩
   ·omega
   ·rcases hi.it s hs with ⟨h,_⟩|⟨_,_,h6,_⟩
    ·omega
    ·have:=hi.tail s hs h1
     rw [h6,e,h2,Int.toNat_natCast] at this
     exact hx (h5 ▸ this)
  rw [hrow,List.pairwise_append,List.pairwise_append]
  refine ⟨⟨L4, ?_,fun s hs t ht h1=>old s (JK s hs) h1 t ht⟩,L5, ?_⟩
  ·unfold aM
   split
   ·simp
   ·refine List.pairwise_map.2 ((ho.nodup_iff.2 dw).imp fun {i j} (h:i≠j) _=> ?_)
    exact h
  ·intro s hs t ht h1
   rcases List.mem_append.1 hs with hs|hs
   ·exact JM s (List.mem_append_left _ hs) t ht h1
   ·intro e
    exact old t (JL t ht) (by omega) s hs e.symm
 ·intro i hl h
  rw [fA,List.mem_append,List.mem_singleton] at h ⊢
  left
  rcases h with h|h
  ·exact hi.low i hl h
  ·obtain ⟨t,ht,e1,e2,_⟩:=u7 hm hi hR hl h
   rw [← e2]
   exact hi.tail t ht (by omega)
 ·rcases hi.src with ⟨h1,h2⟩|⟨s,hs,h⟩
  ·refine ⟨x,by rw [fA];simp, ?_⟩
   refine Decidable.byContradiction fun hn=> ?_
   obtain ⟨A,X,C,hr,_,_,hX,_⟩:=b8 hm hi.todJ hR hn
   obtain ⟨p,X',e,_⟩:=hX.fst
   rw [h2,e] at hr
   simp at hr
  ·exact ⟨s,by rw [fA];simp [hs],h⟩
theorem apart {x y:Int} (hx:0≤x) (hy:0≤y) (hxy:x≠y) {A X C B Y D:List It} (h:A++X++C=B++Y++D) (hX:AF x X) (hY:AF y Y):
 (∃M,B=A++X++M∧C=M++Y++D)∨(∃M,A=B++Y++M∧D=M++X++C):=by
 obtain ⟨p,X',L6,hp⟩:=hX.fst
 obtain ⟨q,Y',L7,hq⟩:=hY.fst
 have nX:q∉X:=fun h=>hX.KF hxy hy q h hq
 have nY:p∉Y:=fun h=>hY.KF (Ne.symm hxy) hx p h hp
 rw [show B++Y++D=B++(Y++D) by simp,List.append_eq_append_iff] at h
 rcases h with ⟨es,h1,h2⟩|⟨cs,h1,h2⟩
 ·exact .inl ⟨es,h1,by rw [h2];simp⟩
 ·match cs,h1,h2 with
  | [],h1,h2=>exact .inl ⟨[],by simpa using h1.symm,by simpa using h2.symm⟩
  |c::cs,h1,h2=>
   have L8:c=q:=by rw [L7] at h2;simp at h2;exact h2.1.symm
   rw [List.append_eq_append_iff] at h1
   rcases h1 with ⟨es,h3,h4⟩|⟨ds,h3,h4⟩
   ·exfalso;refine nX ?_
    rw [h4, ← L8];simp
   ·rw [h4,List.append_assoc,List.append_eq_append_iff] at h2
    rcases h2 with ⟨es,h5,h6⟩|⟨bs,h5,h6⟩
    ·exact .inr ⟨es,by rw [h3,h5];simp,by rw [h6];simp⟩
    ·match bs,h5,h6 with
     | [],h5,h6=>exact .inr ⟨[],by rw [h3,h5];simp,by simpa using h6.symm⟩
     |b::bs,h5,h6=>
      exfalso;refine nY ?_
      have L9:b=p:=by rw [L6] at h6;simp at h6;exact h6.1.symm
      rw [h5, ← L9];simp
theorem wY {g:Gr} (hm:aL g=true) {f:Fr} (hi:sr g f) {x y:Int} (hxy:x≠y) (zj:aq g f x=true) (pJ:aq g f y=true)
 {a b:List Int} (ha:a.Perm (bw g x)) (hb:b.Perm (bw g y)) {A X M Y D:List It} (hr:f.row=A++X++M++Y++D) (hX:AF x X) (hY:AF y Y)
 (cX:X.countP (kA x)=bf g x) (cY:Y.countP (kA y)=bf g y)
 (nA:eW x A) (nC:eW x (M++Y++D)) (nB:eW y (A++X++M)) (nD:eW y D):
 aq g (au g f x a).2 y=true∧aq g (au g f y b).2 x=true∧(au g (au g f x a).2 y b).2.row=(au g (au g f y b).2 x a).2.row∧
 (au g f x a).1=(au g (au g f y b).2 x a).1∧(au g f y b).1=(au g (au g f x a).2 y b).1:=by
 obtain ⟨x0,x1,x2⟩:=aB zj
 obtain ⟨y0,y1,y2⟩:=aB pJ
 have i1:=(gC hm hi zj ha).todJ
 have i2:=(gC hm hi pJ hb).todJ
 have ux:=ox hm hi x2 pJ (fun i h=>ha.mem_iff.1 h)
 have uy:=ox hm hi y2 zj (fun i h=>hb.mem_iff.1 h)
 have r1:f.row=A++X++(M++Y++D):=by rw [hr];simp
 have r2:f.row=(A++X++M)++Y++D:=by rw [hr]
 have e1:=gW (g:=g) a r1 nA nC hX
 have e2:=gW (g:=g) b r2 nB nD hY
 rw [e1] at i1 ⊢;rw [e2] at i2 ⊢
 have r3:A++aM g x a++(M++Y++D)=(A++aM g x a++M)++Y++D:=by simp
 have r4:A++X++M++aM g y b++D=A++X++(M++aM g y b++D):=by simp
 have n3:eW y (A++aM g x a++M):=((nB.left.left).app ux).app nB.right
 have n4:eW x (M++aM g y b++D):=(nC.left.left.app uy).app nC.right
 have e3:=gW (g:=g) (f:=⟨A++aM g x a++(M++Y++D),f.pl++ [x]⟩) b r3 n3 nD hY
 have e4:=gW (g:=g) (f:=⟨A++X++M++aM g y b++D,f.pl++ [y]⟩) a r4 nA n4 hX
 refine ⟨mE hm i1 y0 y1 ?_ r3 n3 nD hY cY,mE hm i2 x0 x1 ?_ r4 nA n4 hX cX, ?_, ?_, ?_⟩
 ·simp [y2,Ne.symm hxy]
 ·simp [x2,hxy]
 ·simp only [e3,e4];simp
 ·simp only [e4]
 ·simp only [e3]
theorem AK {g:Gr} (hm:aL g=true) {f:Fr} (hi:sr g f) {x y:Int} (hxy:x≠y) (zj:aq g f x=true) (pJ:aq g f y=true)
 {a b:List Int} (ha:a.Perm (bw g x)) (hb:b.Perm (bw g y)) (nx:bf g x≠0) (ny:bf g y≠0):
 aq g (au g f x a).2 y=true∧aq g (au g f y b).2 x=true∧(au g (au g f x a).2 y b).2.row=(au g (au g f y b).2 x a).2.row∧
 (au g f x a).1=(au g (au g f y b).2 x a).1∧(au g f y b).1=(au g (au g f x a).2 y b).1:=by
 obtain ⟨A,X,C,hr,hA,hC,hX,cX⟩:=b8 hm hi.todJ zj nx
 obtain ⟨B,Y,D,hr',hB,hD,hY,cY⟩:=b8 hm hi.todJ pJ ny
 rcases apart (aB zj).1 (aB pJ).1 hxy (hr.symm.trans hr') hX hY with ⟨M,rfl,rfl⟩|⟨M,rfl,rfl⟩
 ·exact wY hm hi hxy zj pJ ha hb (by rw [hr];simp) hX hY cX cY hA hC hB hD
 ·obtain ⟨h1,h2,h3,h4,h5⟩:=wY hm hi (Ne.symm hxy) pJ zj hb ha (by rw [hr'];simp) hY hX cY cX hB hD hA hC
  exact ⟨h2,h1,h3.symm,h5,h4⟩
theorem tD {g:Gr} {y:Int} :y∈b7 (·.2) g↔(0≤y∧y<g.n)∧bf g y=0:=by
 simp only [b7,iA,List.mem_map,List.mem_filter,List.mem_range,decide_eq_true_eq]
 have he:∀x:Nat,x<g.n.toNat→(((cV (·.2) g).getD x []).length=bf g (x:Int)):=by
  intro x hx
  have e:(cV (·.2) g).getD x []=aZ (·.2) g.es g.es.length (x:Int):=by
   simp [cV,List.getD_eq_getElem?_getD,List.getElem?_range hx,kQ]
  rw [e];rfl
 constructor
 ·rintro ⟨x,⟨hx,h0⟩,rfl⟩
  refine ⟨by simp;omega,by rw [he x hx] at h0;exact h0⟩
 ·rintro ⟨⟨h1,h2⟩,h3⟩
  have e:((y.toNat:Nat):Int)=y:=by omega
  exact ⟨y.toNat,⟨by omega,by rw [he _ (by omega),e];exact h3⟩,e⟩
theorem gX {g:Gr} (hc:(cA g).1=0) {x y:Int} (hx:0≤x∧x<g.n) (hy:0≤y∧y<g.n) (nx:bf g x=0) (ny:bf g y=0):x=y:=by
 have h1:(b7 (·.2) g).length≤1:=by
  unfold cA gN at hc
  refine Nat.not_lt.1 fun h=> ?_
  split at hc
  ·cases hc
  split at hc
  ·cases hc
  split at hc
  ·cases hc
  split at hc
  ·cases hc
  cases hc
 have h2:=tD.2 ⟨hx,nx⟩
 have h3:=tD.2 ⟨hy,ny⟩
 match hb:b7 (·.2) g with
 | []=>rw [hb] at h2;cases h2
 | [z]=>rw [hb,List.mem_singleton] at h2 h3;rw [h2,h3]
 |_::_::_=>rw [hb] at h1;simp at h1
theorem az {g:Gr} (hc:(cA g).1=0):aL g=true:=by
 unfold cA gN at hc
 split at hc
 ·cases hc
 ·rename_i h;simpa using h
theorem wZ {g:Gr} (hc:(cA g).1=0) {f:Fr} (hi:sr g f) {x y:Int} (hxy:x≠y) (zj:aq g f x=true) (pJ:aq g f y=true):bf g x≠0:=by
 intro nx
 have hm:=az hc
 obtain ⟨x0,x1,x2⟩:=aB zj
 obtain ⟨y0,y1,y2⟩:=aB pJ
 rcases hi.src with ⟨h1,h2⟩|⟨s,hs,h⟩
 ·have ny:bf g y≠0:=fun ny=>hxy (gX hc ⟨x0,x1⟩ ⟨y0,y1⟩ nx ny)
  obtain ⟨A,X,C,hr,_,_,hX,_⟩:=b8 hm hi.todJ pJ ny
  obtain ⟨p,X',e,_⟩:=hX.fst
  rw [h2,e] at hr
  simp at hr
 ·exact x2 (gX hc (hi.CG s hs) ⟨x0,x1⟩ h nx ▸ hs)
theorem tE {g:Gr} (hc:(cA g).1=0) {f:Fr} (hi:sr g f) {x y:Int} (hxy:x≠y) (zj:aq g f x=true) (pJ:aq g f y=true)
 {a b:List Int} (ha:a.Perm (bw g x)) (hb:b.Perm (bw g y)):
 aq g (au g f x a).2 y=true∧aq g (au g f y b).2 x=true∧(au g (au g f x a).2 y b).2.row=(au g (au g f y b).2 x a).2.row∧
 (au g f x a).1=(au g (au g f y b).2 x a).1∧(au g f y b).1=(au g (au g f x a).2 y b).1:=
 AK (az hc) hi hxy zj pJ ha hb (wZ hc hi hxy zj pJ) (wZ hc hi (Ne.symm hxy) pJ zj)
end Go.Ab
end
section
namespace Go.Ab
open Go.Proofs
attribute [local congr] ACall.congr
set_option maxRecDepth 10000
set_option maxHeartbeats 4000000
def zk (row:List It) (a b:Int):Nat→Int × Int
 |0=>(-1,0)
 |k+1=>if ((row.getD k (0,0,0)).2.2=a∨(row.getD k (0,0,0)).2.2=b)∧(row.getD k (0,0,0)).2.2≠(zk row a b k).1 then ((row.getD k (0,0,0)).2.2,(zk row a b k).2+1) else zk row a b k
end Go.Ab
end
section
namespace Go.Ab
open Go.Proofs
attribute [local congr] ACall.congr
set_option maxRecDepth 10000
set_option maxHeartbeats 4000000
def Gd (row:List It) (i:Nat):Int:=(row.getD i (0,0,0)).2.2
def JN (row:List It) (i j:Nat):Bool:=decide (Gd row i≠ -1)&&decide (Gd row j≠ -1)&&decide (Gd row i≠Gd row j)&&decide (4≤(zk row (Gd row i) (Gd row j) row.length).2)
def KI (row:List It):Bool:=(List.range row.length).any fun i=>(List.range row.length).any (JN row i)
end Go.Ab
end
section
namespace Go.Ab
open Go.Proofs
attribute [local congr] ACall.congr
set_option maxRecDepth 10000
set_option maxHeartbeats 8000000
def T4 (row:List It) (a b c d:Nat):Prop:=0≤(row.getD a (0,0,0)).2.2∧0≤(row.getD b (0,0,0)).2.2∧(row.getD a (0,0,0)).2.2≠(row.getD b (0,0,0)).2.2∧(row.getD a (0,0,0)).2.2=(row.getD c (0,0,0)).2.2∧(row.getD b (0,0,0)).2.2=(row.getD d (0,0,0)).2.2
def Ma (row:List It):Prop:=∃a b c d,a<b∧b<c∧c<d∧d<row.length∧T4 row a b c d
end Go.Ab
end
section
namespace Go.Ab
open Go.Proofs
set_option maxRecDepth 10000
theorem o8 {g:Gr} {f f':Fr} (hr:f.row=f'.row) (hp:f.pl.Perm f'.pl) (x:Int):aq g f x=aq g f' x:=by
 unfold aq
 rw [hr]
 by_cases h:x<0∨g.n≤x∨x∈f.pl
 ·rw [if_pos h,if_pos (by rw [← hp.mem_iff];exact h)]
 ·have h':¬(x<0∨g.n≤x∨x∈f'.pl):=by rw [← hp.mem_iff];exact h
  rw [if_neg h,if_neg h']
theorem mG:∀ {l m:List Int},l.Nodup→(∀i∈l,i∈m)→l.length≤m.length
 | [],_,_,_=>by simp
 |a::l,m,hn,hs=>by
  rw [List.nodup_cons] at hn
  have ha:=hs a (List.mem_cons_self ..)
  have:=mG hn.2 (m:=m.erase a) fun i hi=>(List.mem_erase_of_ne (fun e:i=a=>hn.1 (e ▸ hi))).2 (hs i (List.mem_cons_of_mem _ hi))
  rw [List.length_erase_of_mem ha] at this
  have:=List.length_pos_of_mem ha
  rw [List.length_cons];omega
theorem fZ {g:Gr} {f:Fr} (hi:dJ g f) (hf:(f.pl.length:Int)=g.n) {x:Int} (hx:0≤x∧x<g.n):x∈f.pl:=by
 refine Decidable.byContradiction fun h=> ?_
 have h1:(x::f.pl).Nodup:=List.nodup_cons.2 ⟨h,hi.pl⟩
 have h2:((List.range g.n.toNat).map Int.ofNat).length=g.n.toNat:=by simp
 have h3:=mG h1 (m:=(List.range g.n.toNat).map Int.ofNat) (fun y hy=>by
  rw [List.mem_map]
  have:0≤y∧y<g.n:=by
   rcases List.mem_cons.1 hy with h|h
   ·rw [h];exact hx
   ·exact hi.CG y h
  exact ⟨y.toNat,List.mem_range.2 (by omega),by simp;omega⟩)
 rw [h2,List.length_cons] at h3
 omega
def Tg (a b:Int) (row:List It):Prop:=∃l:List It,l.Sublist row∧l.map (fun t=>t.2.2)= [a,b,a,b]
def CK (a b:Int) (t:It):Bool:=decide (t.2.2=a)||decide (t.2.2=b)
theorem Tg.JO {a b:Int} {row:List It} :Tg a b row↔Tg a b (row.filter (CK a b)):=by
 constructor
 ·rintro ⟨l,h,e⟩
  refine ⟨l, ?_,e⟩
  have h1:=h.filter (CK a b)
  rw [List.filter_eq_self.2] at h1
  ·exact h1
  ·intro t ht
   have:t.2.2∈l.map (fun t=>t.2.2):=List.mem_map.2 ⟨t,ht,rfl⟩
   rw [e] at this
   simp only [CK,Bool.or_eq_true,decide_eq_true_eq]
   simp only [List.mem_cons,List.not_mem_nil,or_false] at this
   omega
 ·rintro ⟨l,h,e⟩
  exact ⟨l,h.trans List.filter_sublist,e⟩
theorem Tg.keep {a b x:Int} (ha:0≤a) (hb:0≤b) (Df:a≠x) (we:b≠x) {A X C u:List It} (hX:∀t∈X,t.2.2=x∨t.2.2= -1) (h:Tg a b (A++X++C)):Tg a b (A++u++C):=by
 rw [Tg.JO] at h ⊢
 obtain ⟨l,h,e⟩:=h
 refine ⟨l,h.trans ?_,e⟩
 rw [List.filter_append,List.filter_append,List.filter_append,List.filter_append]
 have:X.filter (CK a b)= []:=List.filter_eq_nil_iff.2 fun t ht=>by
  simp only [CK,Bool.or_eq_true,decide_eq_true_eq]
  rcases hX t ht with h|h<;>omega
 rw [this,List.append_nil]
 exact List.Sublist.append_right (List.sublist_append_left _ _) _
theorem Tg.not {a b x:Int} (hab:a≠b) (hb0:0≤b) (ha0:0≤a) (hx:x=a∨x=b) {A X C:List It} (hA:eW x A) (hC:eW x C) (hX:∀t∈X,t.2.2=x∨t.2.2= -1):¬Tg a b (A++X++C):=by
 rintro ⟨l,h,e⟩
 rw [List.append_assoc,List.sublist_append_iff] at h
 obtain ⟨l1,l',rfl,h1,h'⟩:=h
 rw [List.sublist_append_iff] at h'
 obtain ⟨l2,l3,rfl,h2,h3⟩:=h'
 have k1:∀t∈l1,t.2.2≠x:=fun t ht=>hA t (h1.subset ht)
 have k2:∀t∈l2,t.2.2=x∨t.2.2= -1:=fun t ht=>hX t (h2.subset ht)
 have k3:∀t∈l3,t.2.2≠x:=fun t ht=>hC t (h3.subset ht)
 clear h1 h2 h3
 match l1,k1,e with
 |t1::t2::_,k1,e=>
  simp only [List.cons_append,List.map_cons,List.cons.injEq] at e
  rcases hx with h|h
  ·exact k1 t1 (by simp) (by omega)
  ·exact k1 t2 (by simp) (by omega)
 | [t1],k1,e=>
   simp only [List.cons_append,List.nil_append,List.map_cons,List.cons.injEq] at e
   rcases hx with h|h
   ·exact k1 t1 (by simp) (by omega)
   ·match l2,k2,e with
    | [],_,e=>
      match l3,k3,e with
      | [s1,s2,s3],k3,e=>
        simp only [List.nil_append,List.map_cons,List.map_nil,List.cons.injEq,and_true] at e
        exact k3 s1 (by simp) (by omega)
      | [],_,e=>simp at e
      | [_],_,e=>simp at e
      | [_,_],_,e=>simp at e
      |_::_::_::_::_,_,e=>simp at e
    |s1::s2::_,k2,e=>
     simp only [List.cons_append,List.map_cons,List.cons.injEq] at e
     rcases k2 s2 (by simp) with h|h<;>omega
    | [s1],k2,e=>
      match l3,k3,e with
      | [u1,u2],k3,e=>
        simp only [List.cons_append,List.nil_append,List.map_cons,List.map_nil,List.cons.injEq,and_true] at e
        exact k3 u2 (by simp) (by omega)
      | [],_,e=>simp at e
      | [_],_,e=>simp at e
      |_::_::_::_,_,e=>simp at e
 | [],_,e=>
   simp only [List.nil_append] at e
   match l2,k2,e with
   | [],_,e=>
     match l3,k3,e with
     | [],_,e=>simp at e
     | [_],_,e=>simp at e
     |s1::s2::_,k3,e=>
      simp only [List.nil_append,List.map_cons,List.cons.injEq] at e
      rcases hx with h|h
      ·exact k3 s1 (by simp) (by omega)
      ·exact k3 s2 (by simp) (by omega)
   |s1::s2::_,k2,e=>
    simp only [List.cons_append,List.map_cons,List.cons.injEq] at e
    have q1:=k2 s1 (by simp)
    have q2:=k2 s2 (by simp)
    omega
   | [s1],k2,e=>
     match l3,k3,e with
     | [],_,e=>simp at e
     | [_],_,e=>simp at e
     | [_,_],_,e=>simp at e
     |u1::u2::u3::_,k3,e=>
      simp only [List.cons_append,List.nil_append,List.map_cons,List.cons.injEq] at e
      have q1:=k2 s1 (by simp)
      exact k3 u2 (by simp) (by omega)
end Go.Ab
end
section
namespace Go.Ab
open Go.Proofs
set_option maxRecDepth 10000
theorem AL {row:List It} {k:Nat} (h:k<row.length):row.take (k+1)=row.take k++ [row.getD k (0,0,0)]:=by
 rw [List.take_add_one,List.getD_eq_getElem?_getD,List.getElem?_eq_getElem h];rfl
theorem CL {row:List It} {i j:Nat} (h:i≤j):(row.take i).Sublist (row.take j):=by
 rw [show row.take i=(row.take j).take i by rw [List.take_take,Nat.min_eq_left h]]
 exact List.take_sublist _ _
theorem rL {row l:List It} {i j:Nat} (h:l.Sublist (row.take i)) (hij:i≤j) (hj:j<row.length):(l++ [row.getD j (0,0,0)]).Sublist (row.take (j+1)):=by
 rw [AL hj]
 exact List.Sublist.append (h.trans (CL hij)) (List.Sublist.refl _)
def JP (a b:Int):List It→Prop
 | []=>True
 | [t]=>t.2.2=a∨t.2.2=b
 |s::t::l=>(s.2.2=a∨s.2.2=b)∧s.2.2≠t.2.2∧JP a b (t::l)
end Go.Ab
end
section
namespace Go.Ab
open Go.Proofs
attribute [local congr] ACall.congr
set_option maxRecDepth 10000
end Go.Ab
end
section
namespace Go.Ab
open Go.Proofs
attribute [local congr] ACall.congr
set_option maxRecDepth 10000
def JQ (g:Gr) (out:List Int) (x:Nat) (i:Nat):Bool:=(List.range i).all fun j=> !decide (hd g j=(x:Int))||decide (tl g j∈out)
def Mb (g:Gr) (out:List Int) (k:Nat) (f:Bool):Prop:=k≤g.n.toNat∧(if f then 0<k∧wt g out (k - 1)=0∧∀j,j<k - 1→wt g out j≠0 else ∀j,j<k→wt g out j≠0)
def Mc (out:List Int) (k:Nat) (f:Bool):List Int:=if f then out++ [((k - 1:Nat):Int)] else out
end Go.Ab
end
section
namespace Go.Ab
open Go.Proofs
attribute [local congr] ACall.congr
set_option maxRecDepth 10000
end Go.Ab
end
section
namespace Go.Ab
open Go.Proofs
set_option maxRecDepth 10000
structure Pl where
 ord:List Int
 outs:List (List Int)
def aK (p:Pl) (k:Nat):Int:=p.ord.getD k 0
def cQ (p:Pl) (x:Int):List Int:=p.outs.getD x.toNat []
def bF (g:Gr) (p:Pl):Prop:=p.outs.length=g.n.toNat∧p.ord.Perm (gV g.n.toNat)∧∀x:Nat,x<g.n.toNat→(p.outs.getD x []).Perm (bw g x)
def fK (g:Gr) (p:Pl):Nat→Fr
 |0=>⟨[], []⟩
 |k+1=>(au g (fK g p k) (aK p k) (cQ p (aK p k))).2
def kq (g:Gr) (p:Pl) (k:Nat):List It:=(au g (fK g p k) (aK p k) (cQ p (aK p k))).1.1
def vo (g:Gr) (p:Pl) (k:Nat):Bool:=aq g (fK g p k) (aK p k)
def fI (g:Gr) (p:Pl):Nat→List (List It)
 |0=>List.replicate g.n.toNat []
 |k+1=>(fI g p k).set (aK p k).toNat (kq g p k)
def iR (g:Gr) (p:Pl):Nat→Option Nat
 |0=>none
 |k+1=>match iR g p k with
  |some i=>some i
  |none=>if vo g p k=true then none else some k
def bK (g:Gr) (p:Pl):Prop:=(cA g).1=0∧bF g p∧∀k,k<g.n.toNat→vo g p k=true
theorem gh {g:Gr} {p:Pl} :∀ {k:Nat},iR g p k=none↔∀j,j<k→vo g p j=true
 |0=>by simp [iR]
 |k+1=>by
  rw [iR]
  cases h:iR g p k with
  |some i=>
   simp only [reduceCtorEq,false_iff]
   intro h2
   rw [gh.2 fun j hj=>h2 j (by omega)] at h
   cases h
  |none=>
   have ih:=gh.1 h
   simp only
   constructor
   ·intro h2 j hj
    by_cases hjk:j=k
    ·subst hjk
     refine Decidable.byContradiction fun hn=> ?_
     rw [if_neg hn] at h2;cases h2
    ·exact ih j (by omega)
   ·intro h2
    rw [if_pos (h2 k (by omega))]
theorem mH {g:Gr} {p:Pl} {i:Nat} :∀ {k:Nat},iR g p k=some i↔i<k∧vo g p i=false∧∀j,j<i→vo g p j=true
 |0=>by simp [iR]
 |k+1=>by
  rw [iR]
  cases h:iR g p k with
  |some i'=>
   have ih:=(mH (g:=g) (p:=p)).1 h
   simp only [Option.some.injEq]
   constructor
   ·rintro rfl
    exact ⟨by omega,ih.2⟩
   ·rintro ⟨h1,h2,h3⟩
    rcases Nat.lt_trichotomy i' i with h4|h4|h4
    ·rw [h3 i' h4] at ih;simp at ih
    ·exact h4
    ·rw [ih.2.2 i h4] at h2;cases h2
  |none=>
   have ih:=gh.1 h
   simp only
   constructor
   ·intro h2
    by_cases hk:vo g p k=true
    ·rw [if_pos hk] at h2;cases h2
    ·rw [if_neg hk] at h2
     cases h2
     exact ⟨by omega,by simpa using hk,ih⟩
   ·rintro ⟨h1,h2,h3⟩
    have:i=k:=by
     by_cases h4:i<k
     ·rw [ih i h4] at h2;cases h2
     ·omega
    subst this
    rw [if_neg (by rw [h2];simp)]
theorem kV {n:Nat} :(gV n).length=n:=by simp [gV]
theorem b9 {g:Gr} {p:Pl} (h:bF g p):p.ord.length=g.n.toNat:=by rw [h.2.1.length_eq,kV]
theorem mI {g:Gr} {p:Pl} (h:bF g p):p.ord.Nodup:=h.2.1.nodup_iff.2 j0
theorem bn {g:Gr} {p:Pl} (h:bF g p) {k:Nat} (hk:k<g.n.toNat):0≤aK p k∧aK p k<g.n:=by
 have h1:aK p k∈p.ord:=bS (by rw [b9 h];exact hk)
 have:=dm.1 (h.2.1.mem_iff.1 h1)
 omega
theorem eL {g:Gr} {p:Pl} (h:bF g p) {i j:Nat} (hi:i<g.n.toNat) (hj:j<g.n.toNat) (e:aK p i=aK p j):i=j:=
 qZ (mI h) (by rw [b9 h];exact hi) (by rw [b9 h];exact hj) e
theorem fG {g:Gr} {p:Pl} (h:bF g p) {x:Int} (h0:0≤x) (h1:x<g.n):∃k,k<g.n.toNat∧aK p k=x:=by
 have:x∈p.ord:=h.2.1.mem_iff.2 (dm.2 (by omega))
 obtain ⟨k,hk,e⟩:=List.mem_iff_getElem.1 this
 refine ⟨k,by rw [← b9 h];exact hk, ?_⟩
 rw [aK,List.getD_eq_getElem?_getD,List.getElem?_eq_getElem hk,Option.getD_some,e]
theorem bD {g:Gr} {p:Pl} (h:bF g p) {x:Int} (h0:0≤x) (h1:x<g.n):(cQ p x).Perm (bw g x):=by
 have:=h.2.2 x.toNat (by omega)
 rwa [show ((x.toNat:Nat):Int)=x by omega] at this
theorem nH {g:Gr} {p:Pl} (h:bF g p) {x:Int} (h0:0≤x) (h1:x<g.n):(cQ p x).length≤g.es.length:=by
 rw [(bD h h0 h1).length_eq];exact wW
theorem dK {g:Gr} (hm:aL g=true) {p:Pl} (h:bF g p):∀ {k:Nat},k≤g.n.toNat→(∀j,j<k→vo g p j=true)→sr g (fK g p k)∧(fK g p k).pl=p.ord.take k∧(fK g p k).row.length≤k*(g.es.length+1)
 |0,_,_=>⟨u6 g,by simp [fK],by simp [fK]⟩
 |k+1,hk,hok=>by
  obtain ⟨h1,h2,h3⟩:=dK hm h (k:=k) (by omega) fun j hj=>hok j (by omega)
  obtain ⟨x0,x1⟩:=bn h (k:=k) (by omega)
  have hl:=tB (g:=g) (f:=fK g p k) (x:=aK p k) (o:=cQ p (aK p k))
  have Fw:=nH h x0 x1
  refine ⟨gC hm h1 (hok k (by omega)) (bD h x0 x1), ?_, ?_⟩
  ·show (fK g p k).pl++ [aK p k]=_
   rw [h2,List.take_add_one,List.getElem?_eq_getElem (by rw [b9 h];omega),aK,List.getD_eq_getElem?_getD,List.getElem?_eq_getElem (by rw [b9 h];omega)]
   rfl
  ·show (au _ _ _ _).2.row.length≤_
   rw [Nat.add_mul];omega
theorem w4 {g:Gr} {p:Pl} (h:bF g p) {k:Nat} (hk:k<g.n.toNat) (hR:vo g p k=true):cx g (fK g p k) (aK p k) (cQ p (aK p k))=au g (fK g p k) (aK p k) (cQ p (aK p k)):=by
 have hp:=bD h (bn h hk).1 (bn h hk).2
 unfold cx
 have FL:aq g (fK g p k) (aK p k)=true:=hR
 rw [if_neg (by rw [FL];simp),if_neg]
 rintro (h|⟨i,h1,h2⟩)
 ·exact h hp.length_eq
 ·exact h2 (hp.mem_iff.2 h1)
theorem w5 {g:Gr} {p:Pl} {k:Nat} (hR:vo g p k=false):cx g (fK g p k) (aK p k) (cQ p (aK p k))=(([],3),fK g p k):=if_pos hR
theorem nI {g:Gr} {p:Pl} :∀ {k:Nat},(fI g p k).length=g.n.toNat
 |0=>by simp [fI]
 |k+1=>by rw [fI,List.length_set,nI]
theorem tF {α:Type} {l:List α} {i j:Nat} {a d:α} (hi:i<l.length):(l.set i a).getD j d=if j=i then a else l.getD j d:=by
 rw [List.getD_eq_getElem?_getD,List.getElem?_set,List.getD_eq_getElem?_getD]
 by_cases h:i=j
 ·subst h;simp [hi]
 ·rw [if_neg h,if_neg (Ne.symm h)]
theorem u9 {g:Gr} {p:Pl} (h:bF g p):∀ {k:Nat},k≤g.n.toNat→∀ {i:Nat},i<k→(fI g p k).getD (aK p i).toNat []=kq g p i
 |0,_,i,hi=>by omega
 |k+1,hk,i,hi=>by
  have hm:=bn h (k:=k) (by omega)
  rw [fI,tF (by rw [nI];omega)]
  by_cases e:i=k
  ·subst e;rw [if_pos rfl]
  ·have Fb:=bn h (k:=i) (by omega)
   rw [if_neg (fun h2=>e (eL h (by omega) (by omega) (by omega)))]
   exact u9 h (by omega) (by omega)
theorem nJ {l m:List Int} (h:gM l=m):l.Perm m:=by
 rw [← h];exact (List.mergeSort_perm l _).symm
theorem w6 {n:Nat} :(gV n).Pairwise (· ≤ ·):=by
 unfold gV
 refine List.Pairwise.map _ (fun a b (h:a<b)=> ?_) List.pairwise_lt_range
 show (a:Int)≤b
 omega
theorem D7 {g:Gr} (hm:aL g=true) {p:Pl} :(p.outs.length=g.n.toNat∧p.ord.length=g.n.toNat∧(∀i:Nat,i<(gM p.ord).length→(gM p.ord).getD i 0=i)∧∀x:Nat,x<p.outs.length→gM (p.outs.getD x [])=bp (·.1) g x)↔bF g p:=by
 constructor
 ·rintro ⟨h1,h2,h3,h4⟩
  refine ⟨h1,nJ ?_,fun x hx=> ?_⟩
  ·refine List.ext_getElem (by rw [eP,h2,kV]) fun i h5 h6=> ?_
   have:=h3 i h5
   rw [List.getD_eq_getElem?_getD,List.getElem?_eq_getElem h5,Option.getD_some] at this
   rw [this];simp [gV]
  ·have:=h4 x (by omega)
   rw [fY (by omega) (by omega)] at this
   exact nJ this
 ·intro h
  refine ⟨h.1,b9 h, ?_,fun x hx=> ?_⟩
  ·rw [rJ h.2.1 w6]
   intro i hi
   rw [kV] at hi
   simp [gV,List.getD_eq_getElem?_getD,List.getElem?_range hi]
  ·rw [fY (by omega) (by have:=h.1;omega)]
   exact rJ (h.2.2 x (by rw [← h.1];exact hx)) o7
theorem zm {g:Gr} (hm:aL g=true) {p:Pl} :(fO p.ord g.n=true∧p.outs.length=g.n.toNat∧(∀x:Nat,x<p.outs.length→∀i∈p.outs.getD x [],i∈bw g x)∧p.outs.flatten.Nodup∧∀i:Nat,i<g.es.length→(i:Int)∈p.outs.flatten)↔bF g p:=by
 have hn:=aR hm
 constructor
 ·rintro ⟨h1,h2,h3,h4,h5⟩
  refine ⟨h2, ?_,fun x hx=> ?_⟩
  ·obtain ⟨e1,e2⟩:=bR.1 h1
   exact nG j0 e2 (by rw [kV];omega)
  ·have hxl:x<p.outs.length:=by omega
   have hmem:p.outs.getD x []∈p.outs:=bS hxl
   have cg:(p.outs.getD x []).Nodup:=by
    rw [List.Nodup,List.pairwise_flatten] at h4
    exact h4.1 _ hmem
   refine (List.perm_ext_iff_of_nodup cg dw).2 fun i=>⟨h3 x hxl i,fun hi=> ?_⟩
   obtain ⟨k,rfl,hk,ht⟩:=jC hi
   obtain ⟨l,hl,cn⟩:=List.mem_flatten.1 (h5 k hk)
   obtain ⟨y,hy,rfl⟩:=List.mem_iff_getElem.1 hl
   have e:p.outs.getD y []=p.outs[y]:=by rw [List.getD_eq_getElem?_getD,List.getElem?_eq_getElem hy];rfl
   rw [← e] at cn
   obtain ⟨k',e1,_,e2⟩:=jC (h3 y hy _ cn)
   have:k=k':=by omega
   subst this
   have:x=y:=by omega
   subst this
   exact cn
 ·intro h
  refine ⟨bR.2 ⟨?_,fun x hx=>h.2.1.mem_iff.2 hx⟩,h.1,fun x hx i hi=>(h.2.2 x (by rw [← h.1];exact hx)).mem_iff.1 hi, ?_,fun i hi=> ?_⟩
  ·have:=b9 h;omega
  ·rw [List.Nodup,List.pairwise_flatten]
   constructor
   ·intro l hl
    obtain ⟨x,hx,rfl⟩:=List.mem_iff_getElem.1 hl
    have e:p.outs.getD x []=p.outs[x]:=by rw [List.getD_eq_getElem?_getD,List.getElem?_eq_getElem hx];rfl
    rw [← e]
    exact (h.2.2 x (by rw [← h.1];exact hx)).nodup_iff.2 dw
   ·refine List.pairwise_iff_getElem.2 fun x y hx hy hxy a ha b hb e=> ?_
    subst e
    have ex:p.outs.getD x []=p.outs[x]:=by rw [List.getD_eq_getElem?_getD,List.getElem?_eq_getElem hx];rfl
    have ey:p.outs.getD y []=p.outs[y]:=by rw [List.getD_eq_getElem?_getD,List.getElem?_eq_getElem hy];rfl
    rw [← ex] at ha
    rw [← ey] at hb
    obtain ⟨k,e1,_,e2⟩:=jC ((h.2.2 x (by rw [← h.1];exact hx)).mem_iff.1 ha)
    obtain ⟨k',e3,_,e4⟩:=jC ((h.2.2 y (by rw [← h.1];exact hy)).mem_iff.1 hb)
    have:k=k':=by omega
    subst this
    omega
  ·have ht:=(ee hm hi).1
   refine List.mem_flatten.2 ⟨p.outs.getD (tl g i).toNat [],bS (by rw [h.1];have:0≤tl g i∧tl g i<g.n:=ht;omega), ?_⟩
   have:0≤tl g i∧tl g i<g.n:=ht
   refine (h.2.2 _ (by omega)).mem_iff.2 ?_
   simp only [bw,aZ,List.mem_map,List.mem_filter,List.mem_range,decide_eq_true_eq]
   exact ⟨i,⟨hi,by show tl g i=_;omega⟩,rfl⟩
end Go.Ab
end
section
namespace Go.Ab
open Go.Proofs
set_option maxRecDepth 10000
def nK (g:Gr) (p:Pl) (f:Fr) (x:Int):Fr:=(au g f x (cQ p x)).2
def rM (g:Gr) (p:Pl):Nat→Fr→Prop
 |0,f=>(f.pl.length:Int)=g.n
 |m+1,f=>∃x,aq g f x=true∧rM g p m (nK g p f x)
theorem rN {g:Gr} {p:Pl} :∀ {m:Nat} {f f':Fr},f.row=f'.row→f.pl.Perm f'.pl→rM g p m f→rM g p m f'
 |0,f,f',_,hp,h=>by
  have h:(f.pl.length:Int)=g.n:=h
  show (f'.pl.length:Int)=g.n
  rw [← hp.length_eq];exact h
 |m+1,f,f',hr,hp,⟨x,h1,h2⟩=>by
  refine ⟨x,by rw [← o8 hr hp];exact h1,rN ?_ ?_ h2⟩
  ·simp only [nK,au,hr]
  ·exact hp.append_right _
theorem w8 {g:Gr} (hc:(cA g).1=0) {p:Pl} (hp:bF g p):∀ {m:Nat} {f:Fr},sr g f→(f.pl.length:Int)+(m+1:Nat)=g.n→rM g p (m+1) f→∀ {x:Int},aq g f x=true→rM g p m (nK g p f x)
 |m,f,hi,hl,⟨y,pJ,hcan⟩,x,hR=>by
  have hm:=az hc
  by_cases hxy:x=y
  ·subst hxy;exact hcan
  have py:=bD hp (aB pJ).1 (aB pJ).2.1
  have px:=bD hp (aB hR).1 (aB hR).2.1
  have i2:=gC hm hi pJ py
  match m,hl,hcan with
  |0,hl,hcan=>
   exfalso
   have h1:=fZ i2.todJ (by show ((f.pl++ [y]).length:Int)=g.n;simp;omega) (x:=x) ⟨(aB hR).1,(aB hR).2.1⟩
   have h2:x∈f.pl++ [y]:=h1
   simp [(aB hR).2.2,hxy] at h2
  |m+1,hl,hcan=>
   obtain ⟨h4,h5,h6,_⟩:=tE hc hi hxy hR pJ px py
   have h3:=w8 hc hp i2 (by show (((f.pl++ [y]).length:Nat):Int)+_=_;simp;omega) hcan h5
   refine ⟨y,h4,rN h6.symm ?_ h3⟩
   show (f.pl++ [y]++ [x]).Perm (f.pl++ [x]++ [y])
   rw [List.append_assoc,List.append_assoc]
   exact List.Perm.append_left _ (List.Perm.swap ..)
theorem w9 {g:Gr} {p:Pl} (h:bK g p):∀ {d k:Nat},k+d=g.n.toNat→rM g p d (fK g p k)
 |0,k,hk=>by
  have hn:=aR (az h.1)
  obtain ⟨_,fA,_⟩:=dK (az h.1) h.2.1 (k:=k) (by omega) fun j hj=>h.2.2 j (by omega)
  show ((fK g p k).pl.length:Int)=g.n
  rw [fA,List.length_take,b9 h.2.1];omega
 |d+1,k,hk=>⟨aK p k,h.2.2 k (by omega),w9 h (k:=k+1) (by omega)⟩
def fP (rev:Bool) (l:List It):List It:=if rev=true then l.reverse else l
def cR (g:Gr) (f:Fr) (rev:Bool):Int:=match (fP rev f.row).find? (fun t=>aq g f t.2.2) with
 |some t=>t.2.2
 |none=>(cU g f).headD (-1)
def aO (g:Gr) (p:Pl) (rev:Bool):Nat→Fr
 |0=>⟨[], []⟩
 |k+1=>nK g p (aO g p rev k) (cR g (aO g p rev k) rev)
def cz (g:Gr) (p:Pl) (rev:Bool):Nat→List Int
 |0=>List.replicate g.n.toNat 0
 |k+1=>(cz g p rev k).set (cR g (aO g p rev k) rev).toNat (k:Int)
theorem gl {g:Gr} {p:Pl} {rev:Bool} :∀ {k:Nat},(cz g p rev k).length=g.n.toNat
 |0=>by simp [cz]
 |k+1=>by rw [cz,List.length_set,gl]
theorem gD {g:Gr} (hm:aL g=true) {f:Fr} (hi:dJ g f) {x:Int} :x∈cU g f↔aq g f x=true:=by
 simp only [cU,ja,List.mem_map,List.mem_filter,List.mem_range]
 constructor
 ·rintro ⟨k,⟨h1,h2⟩,rfl⟩
  rw [← gB hm hi];exact h2
 ·intro h
  obtain ⟨h1,h2,_⟩:=aB h
  have e:((x.toNat:Nat):Int)=x:=by omega
  refine ⟨x.toNat,⟨by omega, ?_⟩,e⟩
  rw [e,gB hm hi];exact h
theorem rO {g:Gr} (hm:aL g=true) {f:Fr} (hi:dJ g f) (h:∃x,aq g f x=true) (rev:Bool):aq g f (cR g f rev)=true:=by
 unfold cR
 cases hf:(fP rev f.row).find? (fun t=>aq g f t.2.2) with
 |some t=>
  have h2:=List.find?_some (p:=fun t:It=>aq g f t.2.2) hf
  exact h2
 |none=>
  obtain ⟨x,hx⟩:=h
  have hx:=(gD hm hi).2 hx
  match hL:cU g f with
  | []=>rw [hL] at hx;cases hx
  |y::l=>exact (gD hm hi).1 (by rw [hL];simp)
theorem eA {g:Gr} {p:Pl} (h:bK g p) (rev:Bool):∀ {k:Nat},k≤g.n.toNat→sr g (aO g p rev k)∧(aO g p rev k).pl.length=k∧rM g p (g.n.toNat - k) (aO g p rev k)∧(aO g p rev k).row.length≤k*(g.es.length+1)
 |0,_=>⟨u6 g,rfl,w9 h (k:=0) (by omega),by simp [aO]⟩
 |k+1,hk=>by
  have hm:=az h.1
  have hn:=aR hm
  obtain ⟨h1,h2,h3,h4⟩:=eA h rev (k:=k) (by omega)
  obtain ⟨m,hmm⟩:∃m,g.n.toNat - k=m+1:=⟨g.n.toNat - k - 1,by omega⟩
  rw [hmm] at h3
  have hR:=rO hm h1.todJ (by obtain ⟨x,hx,_⟩:=h3;exact ⟨x,hx⟩) rev
  have hx:=aB hR
  have hp:=bD h.2.1 hx.1 hx.2.1
  have hl:=tB (g:=g) (f:=aO g p rev k) (x:=cR g (aO g p rev k) rev) (o:=cQ p (cR g (aO g p rev k) rev))
  have Fw:=nH h.2.1 hx.1 hx.2.1
  refine ⟨gC hm h1 hR hp,hl.2.trans (by rw [h2]), ?_, ?_⟩
  ·rw [show g.n.toNat - (k+1)=m by omega]
   exact w8 h.1 h.2.1 h1 (by omega) h3 hR
  ·show (au _ _ _ _).2.row.length≤_
   rw [Nat.add_mul];omega
theorem j7 {g:Gr} {p:Pl} (h:bK g p) (rev:Bool) {k:Nat} (hk:k<g.n.toNat):aq g (aO g p rev k) (cR g (aO g p rev k) rev)=true∧cU g (aO g p rev k)≠ []:=by
 have hm:=az h.1
 obtain ⟨h1,h2,h3,_⟩:=eA h rev (k:=k) (by omega)
 obtain ⟨m,hmm⟩:∃m,g.n.toNat - k=m+1:=⟨g.n.toNat - k - 1,by omega⟩
 rw [hmm] at h3
 have hR:=rO hm h1.todJ (by obtain ⟨x,hx,_⟩:=h3;exact ⟨x,hx⟩) rev
 exact ⟨hR,fun e=>by
  have:=(gD hm h1.todJ).2 hR
  rw [e] at this;cases this⟩
def eX (g:Gr) (p:Pl) (rev:Bool):List Int:=(List.range g.n.toNat).map fun k=>cR g (aO g p rev k) rev
theorem va {g:Gr} {p:Pl} (rev:Bool):∀ {k:Nat},(aO g p rev k).pl=(List.range k).map fun j=>cR g (aO g p rev j) rev
 |0=>rfl
 |k+1=>by
  rw [List.range_succ,List.map_append, ← va rev (k:=k)]
  rfl
theorem lG {g:Gr} {p:Pl} (h:bK g p) (rev:Bool):bK g ⟨eX g p rev,p.outs⟩:=by
 have hm:=az h.1
 have hn:=aR hm
 obtain ⟨h1,h2,_,_⟩:=eA h rev (k:=g.n.toNat) (Nat.le_refl _)
 have fA:(aO g p rev g.n.toNat).pl=eX g p rev:=va rev
 have hQ:bF g ⟨eX g p rev,p.outs⟩:=by
  refine ⟨h.2.1.1, ?_,h.2.1.2.2⟩
  show (eX g p rev).Perm (gV g.n.toNat)
  rw [← fA]
  refine (nG (ms:=(aO g p rev g.n.toNat).pl) (os:=gV g.n.toNat) h1.pl (fun x hx=>dm.2 (by have:=h1.CG x hx;omega)) (by rw [kV,h2])).symm
 have yc:∀k,k<g.n.toNat→aK ⟨eX g p rev,p.outs⟩ k=cR g (aO g p rev k) rev:=fun k hk=>by
  simp [aK,eX,List.getD_eq_getElem?_getD,List.getElem?_range hk]
 have Md:∀k,k≤g.n.toNat→fK g ⟨eX g p rev,p.outs⟩ k=aO g p rev k:=by
  intro k
  induction k with
  |zero=>intro _;rfl
  |succ k ih=>
   intro hk
   show (au g (fK g ⟨eX g p rev,p.outs⟩ k) _ _).2=_
   rw [yc k (by omega),ih (by omega)]
   rfl
 refine ⟨h.1,hQ,fun k hk=> ?_⟩
 unfold vo
 rw [Md k (by omega),yc k hk]
 exact (j7 h rev hk).1
end Go.Ab
end
section
namespace Go.Ab
open Go.Proofs
set_option maxRecDepth 10000
def iM (f:Fr):Fr:=⟨f.row.reverse,f.pl⟩
def bT (p:Pl):Pl:=⟨p.ord,p.outs.map List.reverse⟩
theorem AM {f:Fr} :iM (iM f)=f:=by simp [iM]
theorem vb {g:Gr} {f:Fr} (h:dJ g f):dJ g (iM f):=⟨fun t ht=>h.it t (List.mem_reverse.1 ht),h.pl,h.CG⟩
theorem eW.rev {x:Int} {l:List It} (h:eW x l):eW x l.reverse:=fun t ht=>h t (List.mem_reverse.1 ht)
theorem AF.rev {x:Int} {X:List It} (h:AF x X):AF x X.reverse:=
 ⟨by obtain ⟨X',q,h1,h2⟩:=h.Cb;exact ⟨q,X'.reverse,by simp [h1],h2⟩,by obtain ⟨p,X',h1,h2⟩:=h.fst;exact ⟨X'.reverse,p,by simp [h1],h2⟩,fun t ht=>h.al t (List.mem_reverse.1 ht)⟩
theorem rP {g:Gr} (hm:aL g=true) {f:Fr} (hi:dJ g f) {x:Int} (hR:aq g f x=true):aq g (iM f) x=true:=by
 obtain ⟨h0,h1,h2⟩:=aB hR
 by_cases hn:bf g x=0
 ·unfold aq
  rw [if_neg (by rintro (h|h|h);omega;omega;exact h2 h),if_pos hn]
 ·obtain ⟨A,X,C,hr,hA,hC,hX,hc⟩:=b8 hm hi hR hn
  exact mE hm (vb hi) h0 h1 h2 (A:=C.reverse) (X:=X.reverse) (C:=A.reverse) (by simp [iM,hr]) hC.rev hA.rev hX.rev (by rw [List.countP_reverse,hc])
theorem oy {g:Gr} (hm:aL g=true) {f:Fr} (hi:dJ g f) (x:Int):aq g (iM f) x=aq g f x:=by
 rw [Bool.eq_iff_iff]
 refine ⟨fun h=> ?_,rP hm hi⟩
 have:=rP hm (vb hi) h
 rwa [AM] at this
theorem tG {g:Gr} {x:Int} {o:List Int} :aM g x o.reverse=(aM g x o).reverse:=by
 unfold aM
 by_cases h:o= []
 ·rw [if_pos h,if_pos (by rw [h];rfl)];rfl
 ·rw [if_neg h,if_neg (by simpa using h),List.map_reverse]
theorem rQ {g:Gr} (hc:(cA g).1=0) {f:Fr} (hi:sr g f) {x:Int} (hR:aq g f x=true) (o:List Int):
 au g (iM f) x o.reverse=(((au g f x o).1.1.reverse,0),iM (au g f x o).2):=by
 have hm:=az hc
 obtain ⟨h0,h1,h2⟩:=aB hR
 by_cases hn:bf g x=0
 ·have hrow:f.row= []:=by
   rcases hi.src with ⟨_,h⟩|⟨s,hs,hz⟩
   ·exact h
   ·have:=gX hc (x:=s) (y:=x) (hi.CG s hs) ⟨h0,h1⟩ hz hn
    exact absurd (this ▸ hs) h2
  have hno:eW x f.row:=by rw [hrow];intro t ht;cases ht
  have JR:eW x (iM f).row:=hno.rev
  rw [iu _ hno,iu _ JR]
  simp [iM,hrow,tG]
 ·obtain ⟨A,X,C,hr,hA,hC,hX,_⟩:=b8 hm hi.todJ hR hn
  rw [gW o hr hA hC hX,gW (f:=iM f) (A:=C.reverse) (X:=X.reverse) (C:=A.reverse) o.reverse (by simp [iM,hr]) hC.rev hA.rev hX.rev]
  simp [iM,tG]
theorem j8 {p:Pl} {x:Int} :cQ (bT p) x=(cQ p x).reverse:=by
 unfold cQ bT
 simp only [List.getD_eq_getElem?_getD,List.getElem?_map]
 cases p.outs[x.toNat]? <;>simp
theorem ym {g:Gr} {p:Pl} (h:bF g p):bF g (bT p):=by
 refine ⟨by simpa [bT] using h.1,h.2.1,fun x hx=> ?_⟩
 have e:(bT p).outs.getD x []=(p.outs.getD x []).reverse:=by
  have:=j8 (p:=p) (x:=(x:Int))
  unfold cQ at this
  simpa using this
 rw [e]
 exact (List.reverse_perm _).trans (h.2.2 x hx)
theorem yo {g:Gr} {p:Pl} (h:bK g p):∀ {k:Nat},k≤g.n.toNat→fK g (bT p) k=iM (fK g p k)∧∀j,j<k→vo g (bT p) j=true
 |0,_=>⟨rfl,fun j hj=>by omega⟩
 |k+1,hk=>by
  have hm:=az h.1
  obtain ⟨h1,h2⟩:=yo h (k:=k) (by omega)
  obtain ⟨hi,_,_⟩:=dK hm h.2.1 (k:=k) (by omega) fun j hj=>h.2.2 j (by omega)
  have hR:aq g (fK g p k) (aK p k)=true:=h.2.2 k (by omega)
  have ho:aK (bT p) k=aK p k:=rfl
  have hok:vo g (bT p) k=true:=by
   show aq g (fK g (bT p) k) (aK (bT p) k)=true
   rw [h1,ho,oy hm hi.todJ,hR]
  refine ⟨?_,fun j hj=> ?_⟩
  ·show (au g (fK g (bT p) k) (aK (bT p) k) (cQ (bT p) (aK (bT p) k))).2=_
   rw [h1,ho,j8,rQ h.1 hi hR]
   rfl
  ·by_cases e:j=k
   ·subst e;exact hok
   ·exact h2 j (by omega)
theorem nL {g:Gr} {p:Pl} (h:bK g p):bK g (bT p):=
 ⟨h.1,ym h.2.1,fun k hk=>(yo h (k:=k+1) (by omega)).2 k (by omega)⟩
theorem CM {g:Gr} {p:Pl} (h:bK g p) {k:Nat} (hk:k<g.n.toNat):kq g (bT p) k=(kq g p k).reverse:=by
 have hm:=az h.1
 obtain ⟨hi,_,_⟩:=dK hm h.2.1 (k:=k) (by omega) fun j hj=>h.2.2 j (by omega)
 have ho:aK (bT p) k=aK p k:=rfl
 show (au g (fK g (bT p) k) (aK (bT p) k) (cQ (bT p) (aK (bT p) k))).1.1=_
 rw [(yo h (by omega)).1,ho,j8,rQ h.1 hi (h.2.2 k hk)]
 rfl
theorem xb {g:Gr} (hm:aL g=true) {f:Fr} (hi:dJ g f) (rev:Bool):cR g (iM f) (!rev)=cR g f rev:=by
 unfold cR
 have e1:fP (!rev) (iM f).row=fP rev f.row:=by cases rev<;>simp [fP,iM]
 have e2:(fun t:It=>aq g (iM f) t.2.2)=fun t:It=>aq g f t.2.2:=by funext t;exact oy hm hi _
 have e3:cU g (iM f)=cU g f:=by
  unfold cU ja
  have:(fun x:Nat=>dU g (iM f) (x:Int))=fun x:Nat=>dU g f (x:Int):=by
   funext x;rw [gB hm (vb hi),gB hm hi,oy hm hi]
  rw [this]
 rw [e1,e2,e3]
theorem xd {g:Gr} {p:Pl} (h:bK g p) (rev:Bool):∀ {k:Nat},k≤g.n.toNat→aO g (bT p) (!rev) k=iM (aO g p rev k)
 |0,_=>rfl
 |k+1,hk=>by
  have hm:=az h.1
  obtain ⟨hi,_,_,_⟩:=eA h rev (k:=k) (by omega)
  have ih:=xd h rev (k:=k) (by omega)
  show (au g (aO g (bT p) (!rev) k) (cR g (aO g (bT p) (!rev) k) (!rev)) (cQ (bT p) _)).2=_
  rw [ih,xb hm hi.todJ,j8,rQ h.1 hi (j7 h rev (by omega)).1]
  rfl
theorem rR {g:Gr} {p:Pl} (h:bK g p) (rev:Bool):∀ {k:Nat},k≤g.n.toNat→cz g (bT p) (!rev) k=cz g p rev k
 |0,_=>rfl
 |k+1,hk=>by
  have hm:=az h.1
  obtain ⟨hi,_,_,_⟩:=eA h rev (k:=k) (by omega)
  show (cz g (bT p) (!rev) k).set (cR g (aO g (bT p) (!rev) k) (!rev)).toNat (k:Int)=_
  rw [rR h rev (by omega),xd h rev (by omega),xb hm hi.todJ]
  rfl
theorem D8 {g:Gr} {p:Pl} {rev:Bool} {k:Nat} (hk:k<g.n.toNat):(eX g p rev).getD k 0=cR g (aO g p rev k) rev:=by
 simp [eX,List.getD_eq_getElem?_getD,List.getElem?_range hk]
theorem xe {g:Gr} {p:Pl} {rev:Bool} :(eX g p rev).length=g.n.toNat:=by simp [eX]
theorem AN {g:Gr} {p:Pl} (h:bK g p) (rev:Bool):(eX g p rev).Perm (gV g.n.toNat):=(lG h rev).2.1.2.1
theorem zn {g:Gr} {p:Pl} (h:bK g p) (rev:Bool):∀ {k:Nat},k≤g.n.toNat→∀j,j<k→(cz g p rev k).getD ((eX g p rev).getD j 0).toNat 0=(j:Int)
 |0,_,j,hj=>by omega
 |k+1,hk,j,hj=>by
  have hQ:=(lG h rev).2.1
  have xA:=bn hQ (k:=k) (by omega)
  have JS:=bn hQ (k:=j) (by omega)
  have ek:aK ⟨eX g p rev,p.outs⟩ k=(eX g p rev).getD k 0:=rfl
  have ej:aK ⟨eX g p rev,p.outs⟩ j=(eX g p rev).getD j 0:=rfl
  rw [cz, ← D8 (by omega),tF (by rw [gl];omega)]
  by_cases e:j=k
  ·subst e;rw [if_pos rfl]
  ·rw [if_neg,zn h rev (by omega) j (by omega)]
   intro e2
   exact e (eL hQ (by omega) (by omega) (by omega))
end Go.Ab
end
section
namespace Go.Ab
open Go.Proofs
set_option maxRecDepth 10000
def loose (l:List It):List Int:=(l.filter fun t=>decide (t.1<0)).map fun t=>t.2.1
theorem tH {a b:List It} :loose (a++b)=loose a++loose b:=by simp [loose]
def HK (g:Gr) (p:Pl):Nat→List Edge
 |0=> []
 |k+1=>HK g p k++(loose (kq g p k)).map fun v=>(v,aK p k)
def lX (g:Gr) (p:Pl):List It:=(fK g p g.n.toNat).row
def newL (g:Gr) (p:Pl):List Edge:=if 1<(lX g p).length then (loose (lX g p)).map fun v=>(v,g.n) else []
def HL (g:Gr) (p:Pl):List Edge:=HK g p g.n.toNat++newL g p
def CN (g:Gr) (p:Pl):Gr:=⟨if 1<(lX g p).length then g.n+1 else g.n,g.es++HL g p⟩
def HM:Nat→List Edge→List (List Int)→List (List Int)
 |_, [],O=>O
 |m,e::N,O=>HM (m+1) N (O.set e.1.toNat [(m:Int)])
def JT (g:Gr) (p:Pl):Pl:=⟨if 1<(lX g p).length then p.ord++ [g.n] else p.ord,HM g.es.length (HL g p) (if 1<(lX g p).length then p.outs++ [[]] else p.outs)⟩
def Me (g:Gr) (p:Pl) (x:Gr):List (List Int):=(List.range x.n.toNat).map fun v=>if 0<(p.outs.getD v []).length then p.outs.getD v [] else bw x (v:Int)
theorem xg {g:Gr} {p:Pl} (h:bF g p) {v:Int} (h0:0≤v) (h1:v<g.n):bw g v= []↔cQ p v= []:=by
 have hp:=bD h h0 h1
 constructor
 ·intro e;rw [e] at hp;exact hp.eq_nil
 ·intro e;rw [e] at hp;exact hp.symm.eq_nil
end Go.Ab
end
section
namespace Go.Ab
open Go.Proofs
set_option maxRecDepth 10000
abbrev Act:=Int × List Int
def rA (a:Act):List D:= [.sc (.int .i64 a.1),sI a.2]
def sA (as':List Act):D:= .sl 2 (as'.map rA)
attribute [go_sem] sA
def HN (g:Gr) (FN:List Act):Nat→Fr
 |0=>⟨[], []⟩
 |k+1=>(cx g (HN g FN k) (FN.getD k (0, [])).1 (FN.getD k (0, [])).2).2
theorem EI {g:Gr} {f:Fr} (hi:dJ g f):(f.pl.length:Int)≤g.n∨f.pl= []:=by
 by_cases h:f.pl= []
 ·exact .inr h
 ·left
  obtain ⟨y,hy⟩:=List.exists_mem_of_ne_nil _ h
  have:=hi.CG y hy
  have h3:=mG hi.pl (m:=(List.range g.n.toNat).map Int.ofNat) (fun y hy=>by
   rw [List.mem_map]
   have:=hi.CG y hy
   exact ⟨y.toNat,List.mem_range.2 (by omega),by simp;omega⟩)
  simp at h3
  omega
theorem o9 (g:Gr) (hm:aL g=true) (f:Fr) (hi:sr g f) (x:Int) (outs:List Int) (hr:f.row.length≤300000) (hp:f.pl.length≤100000) (ho:outs.length≤17592186043904):
 Spec Tryz.prog 83 (Args [.ptr 10000 0,eN x, .d (sI outs)]) (eH g f) (.tup [.d (sT (cx g f x outs).1.1),eN (cx g f x outs).1.2]) (jz g (cx g f x outs).2):=by
 rw [← CH hm hi.todJ]
 exact yl g hm f x outs hr hp ho
end Go.Ab
end
section
namespace Go.Ab
open Go.Proofs
attribute [local congr] ACall.congr
set_option maxRecDepth 10000
set_option maxHeartbeats 4000000
def ePl (p:Pl):AV:= .agg [.d (sI p.ord), .d (.sl 1 (vI p.outs))]
attribute [go_sem] ePl
structure rS (p:Pl):Prop where
 ord:p.ord.length≤17592186043904
 outs:p.outs.length≤9223372036854775807
 each:∀l∈p.outs,l.length≤17592186043904
theorem CO (g:Gr) (hm:aL g=true) (p:Pl) (hp:rS p) (res:Bool) (hr:res=true↔bF g p):Spec Tryz.prog 82 (Args [.d (vw g),ePl p]) [] (eB res) []:=by
 rw [← D7 hm] at hr
 have hn:=aR hm
 have ho:=hp.ord
 have Gl:=hp.outs
 by_cases h1:p.outs.length=g.n.toNat∧p.ord.length=g.n.toNat
 rotate_left
 ·have hres:res=false:=by
   rw [← Bool.not_eq_true,hr]
   rintro ⟨h2,h3,_⟩
   exact h1 ⟨h2,h3⟩
  subst hres
  by_cases h2:(p.outs.length:Int)=g.n
  ·have ak:decide ((p.outs.length:Int)=g.n)=true:=decide_eq_true h2
   have an:decide ((p.ord.length:Int)=g.n)=false:=decide_eq_false fun h3=>h1 ⟨by omega,by omega⟩
   (refine Spec.intro (C:=T.cfg [] []) (rs:= [.t 4]) (T.ai _ _) Tryz.func82 rfl rfl Tryz.ntmps82 Tryz.results82 (by simp [AObj.isNest]) (by simp [AObj.isNest]) (by kernel_rfl) ?_;intro X hX hP hC aH aI vals hA;refine ⟨_,by simp,hA, ?_⟩;have af:X.P.follows .mixedOrders=true:=(by rw [hP];exact T.mixed);clear aH aI)
   repeat' (first|((first|((with_reducible (first|apply oA|apply oB));exact rfl;intro K hK)|(refine hK _ ?_;clear hK K)|((with_reducible (first|apply oG|apply oH));iterate 3 exact rfl)|((with_reducible apply oI);(iterate 2 exact rfl);intro K hK)|(with_reducible (first|apply wI|apply wJ|apply wK)));try simp only [go_sem,simprocAttr,ag,ak,an])|(with_reducible (first|apply oC|apply oJ|exact oK|apply wA|apply wB|apply wC hX hC|apply wD hX hC|apply wE hX hC af|apply wF hX hC af|apply wG|apply wH|apply And.intro))|((with_reducible refine oD ?_ ?_);kernel_rfl)|((with_reducible (first|apply oE|apply oF));(iterate 3 exact rfl);all_goals (intro h;first|(exact absurd h (by decide))|((try simp only [go_sem,simprocAttr,ag,ak,an] at h);(try with_reducible intro K hK);simp only [go_sem,simprocAttr,ag,ak,an])))|((first|((with_reducible apply wL);exact rfl)|((with_reducible apply wM);exact rfl));all_goals (try ((with_reducible intro h);first|(exact absurd h (by decide))|(try simp only [go_sem,simprocAttr,ag,ak,an] at h))))|omega|(intro h))
  ·have ak:decide ((p.outs.length:Int)=g.n)=false:=decide_eq_false h2
   (refine Spec.intro (C:=T.cfg [] []) (rs:= [.t 4]) (T.ai _ _) Tryz.func82 rfl rfl Tryz.ntmps82 Tryz.results82 (by simp [AObj.isNest]) (by simp [AObj.isNest]) (by kernel_rfl) ?_;intro X hX hP hC aH aI vals hA;refine ⟨_,by simp,hA, ?_⟩;have af:X.P.follows .mixedOrders=true:=(by rw [hP];exact T.mixed);clear aH aI)
   repeat' (first|((first|((with_reducible (first|apply oA|apply oB));exact rfl;intro K hK)|(refine hK _ ?_;clear hK K)|((with_reducible (first|apply oG|apply oH));iterate 3 exact rfl)|((with_reducible apply oI);(iterate 2 exact rfl);intro K hK)|(with_reducible (first|apply wI|apply wJ|apply wK)));try simp only [go_sem,simprocAttr,ag,ak])|(with_reducible (first|apply oC|apply oJ|exact oK|apply wA|apply wB|apply wC hX hC|apply wD hX hC|apply wE hX hC af|apply wF hX hC af|apply wG|apply wH|apply And.intro))|((with_reducible refine oD ?_ ?_);kernel_rfl)|((with_reducible (first|apply oE|apply oF));(iterate 3 exact rfl);all_goals (intro h;first|(exact absurd h (by decide))|((try simp only [go_sem,simprocAttr,ag,ak] at h);(try with_reducible intro K hK);simp only [go_sem,simprocAttr,ag,ak])))|((first|((with_reducible apply wL);exact rfl)|((with_reducible apply wM);exact rfl));all_goals (try ((with_reducible intro h);first|(exact absurd h (by decide))|(try simp only [go_sem,simprocAttr,ag,ak] at h))))|omega|(intro h))
 have ak:decide ((p.outs.length:Int)=g.n)=true:=decide_eq_true (by omega)
 have an:decide ((p.ord.length:Int)=g.n)=true:=decide_eq_true (by omega)
 have De:=eP p.ord
 (refine Spec.intro (C:=T.cfg [] []) (rs:= [.t 4]) (T.ai _ _) Tryz.func82 rfl rfl Tryz.ntmps82 Tryz.results82 (by simp [AObj.isNest]) (by simp [AObj.isNest]) (by kernel_rfl) ?_;intro X hX hP hC aH aI vals hA;refine ⟨_,by simp,hA, ?_⟩;have af:X.P.follows .mixedOrders=true:=(by rw [hP];exact T.mixed);clear aH aI)
 repeat' (first|((first|((with_reducible (first|apply oA|apply oB));exact rfl;intro K hK)|(refine hK _ ?_;clear hK K)|((with_reducible (first|apply oG|apply oH));iterate 3 exact rfl)|((with_reducible apply oI);(iterate 2 exact rfl);intro K hK)|(with_reducible (first|apply wI|apply wJ|apply wK)));try simp only [go_sem,simprocAttr,ag,ak,an])|(with_reducible (first|apply oC|apply oJ|exact oK|apply wA|apply wB|apply wC hX hC|apply wD hX hC|apply wE hX hC af|apply wF hX hC af|apply wG|apply wH|apply And.intro))|((with_reducible refine oD ?_ ?_);kernel_rfl)|((with_reducible (first|apply oE|apply oF));(iterate 3 exact rfl);all_goals (intro h;first|(exact absurd h (by decide))|((try simp only [go_sem,simprocAttr,ag,ak,an] at h);(try with_reducible intro K hK);simp only [go_sem,simprocAttr,ag,ak,an])))|((first|((with_reducible apply wL);exact rfl)|((with_reducible apply wM);exact rfl));all_goals (try ((with_reducible intro h);first|(exact absurd h (by decide))|(try simp only [go_sem,simprocAttr,ag,ak,an] at h))))|omega|((first|(refine aA hX hC hP [(10000,31)] (cy p.ord) rfl rfl rfl ?_ ?_ ?_ ?_ ?_ ?_ ?_ ?_ ?_ ?_ ?_ ?_ ?_ ?_;(focus (simp only [go_sem,simprocAttr,ag,ak,an];done));(iterate 12 (focus (simp [go_sem,simprocAttr,ag,ak,an];done)));simp only [go_sem,simprocAttr,ag,ak,an,List.map_cons,List.map_nil])|(refine aE hX hC hP [(10000,31)] (bV p.ord ho) rfl rfl rfl ?_ ?_ ?_ ?_ ?_ ?_ rfl rfl ?_ ?_;(focus (simp only [go_sem,simprocAttr,ag,ak,an];done));(iterate 6 (focus (simp [go_sem,simprocAttr,ag,ak,an];done)));simp only [go_sem,simprocAttr,ag,ak,an,List.map_cons,List.map_nil]));try simp only [go_sem,simprocAttr,ag,ak,an])|(intro h))
 clear ak an
 refine aj (fun k:Nat=>k≤(gM p.ord).length∧∀i:Nat,i<k→(gM p.ord).getD i 0=i) (fun k=>⟨[(0, .d (vw g)),(3, .ptr 3 0),(32, .d (sI (gM p.ord))),(33,eN (gM p.ord).length),(34,eN k)], [(3, .box [.d (sI p.ord), .d (.sl 1 (vI p.outs))])]⟩) (fun k=>(gM p.ord).length - k) 0 (by simp) ?_ ?_
 ·(refine Le.of ?_ ?_<;>simp [go_sem,simprocAttr,ag])
 rintro k ⟨hk,hg⟩
 rcases Nat.lt_or_ge k (gM p.ord).length with hlt|hge
 ·have hb:decide ((k:Int)<((gM p.ord).length:Int))=true:=decide_eq_true (by omega)
  by_cases he:(gM p.ord).getD k 0=k
  ·have an:decide ((gM p.ord).getD k 0=(k:Int))=true:=decide_eq_true he
   repeat' (first|((first|((with_reducible (first|apply oA|apply oB));exact rfl;intro K hK)|(refine hK _ ?_;clear hK K)|((with_reducible (first|apply oG|apply oH));iterate 3 exact rfl)|((with_reducible apply oI);(iterate 2 exact rfl);intro K hK)|(with_reducible (first|apply wI|apply wJ|apply wK)));try simp only [go_sem,simprocAttr,ag,hb,an])|(with_reducible (first|apply oC|apply oJ|exact oK|apply wA|apply wB|apply wC hX hC|apply wD hX hC|apply wE hX hC af|apply wF hX hC af|apply wG|apply wH|apply And.intro))|((with_reducible refine oD ?_ ?_);kernel_rfl)|((with_reducible (first|apply oE|apply oF));(iterate 3 exact rfl);all_goals (intro h;first|(exact absurd h (by decide))|((try simp only [go_sem,simprocAttr,ag,hb,an] at h);(try with_reducible intro K hK);simp only [go_sem,simprocAttr,ag,hb,an])))|((first|((with_reducible apply wL);exact rfl)|((with_reducible apply wM);exact rfl));all_goals (try ((with_reducible intro h);first|(exact absurd h (by decide))|(try simp only [go_sem,simprocAttr,ag,hb,an] at h))))|omega|((first|(refine aA hX hC hP [(10000,31)] (cy p.ord) rfl rfl rfl ?_ ?_ ?_ ?_ ?_ ?_ ?_ ?_ ?_ ?_ ?_ ?_ ?_ ?_;(focus (simp only [go_sem,simprocAttr,ag,hb,an];done));(iterate 12 (focus (simp [go_sem,simprocAttr,ag,hb,an];done)));simp only [go_sem,simprocAttr,ag,hb,an,List.map_cons,List.map_nil])|(refine aE hX hC hP [(10000,31)] (bV p.ord ho) rfl rfl rfl ?_ ?_ ?_ ?_ ?_ ?_ rfl rfl ?_ ?_;(focus (simp only [go_sem,simprocAttr,ag,hb,an];done));(iterate 6 (focus (simp [go_sem,simprocAttr,ag,hb,an];done)));simp only [go_sem,simprocAttr,ag,hb,an,List.map_cons,List.map_nil]));try simp only [go_sem,simprocAttr,ag,hb,an])|(intro h))
   refine ⟨k+1,⟨by omega,fun i hi=> ?_⟩, ?_,by omega⟩
   ·by_cases hik:i=k
    ·subst hik;exact he
    ·exact hg i (by omega)
   ·(refine Le.of ?_ ?_<;>simp [go_sem,simprocAttr,ag,hb,an])
  ·have an:decide ((gM p.ord).getD k 0=(k:Int))=false:=decide_eq_false he
   have hres:res=false:=by
    rw [← Bool.not_eq_true,hr]
    rintro ⟨_,_,h3,_⟩
    exact he (h3 k hlt)
   subst hres
   repeat' (first|((first|((with_reducible (first|apply oA|apply oB));exact rfl;intro K hK)|(refine hK _ ?_;clear hK K)|((with_reducible (first|apply oG|apply oH));iterate 3 exact rfl)|((with_reducible apply oI);(iterate 2 exact rfl);intro K hK)|(with_reducible (first|apply wI|apply wJ|apply wK)));try simp only [go_sem,simprocAttr,ag,hb,an])|(with_reducible (first|apply oC|apply oJ|exact oK|apply wA|apply wB|apply wC hX hC|apply wD hX hC|apply wE hX hC af|apply wF hX hC af|apply wG|apply wH|apply And.intro))|((with_reducible refine oD ?_ ?_);kernel_rfl)|((with_reducible (first|apply oE|apply oF));(iterate 3 exact rfl);all_goals (intro h;first|(exact absurd h (by decide))|((try simp only [go_sem,simprocAttr,ag,hb,an] at h);(try with_reducible intro K hK);simp only [go_sem,simprocAttr,ag,hb,an])))|((first|((with_reducible apply wL);exact rfl)|((with_reducible apply wM);exact rfl));all_goals (try ((with_reducible intro h);first|(exact absurd h (by decide))|(try simp only [go_sem,simprocAttr,ag,hb,an] at h))))|omega|((first|(refine aA hX hC hP [(10000,31)] (cy p.ord) rfl rfl rfl ?_ ?_ ?_ ?_ ?_ ?_ ?_ ?_ ?_ ?_ ?_ ?_ ?_ ?_;(focus (simp only [go_sem,simprocAttr,ag,hb,an];done));(iterate 12 (focus (simp [go_sem,simprocAttr,ag,hb,an];done)));simp only [go_sem,simprocAttr,ag,hb,an,List.map_cons,List.map_nil])|(refine aE hX hC hP [(10000,31)] (bV p.ord ho) rfl rfl rfl ?_ ?_ ?_ ?_ ?_ ?_ rfl rfl ?_ ?_;(focus (simp only [go_sem,simprocAttr,ag,hb,an];done));(iterate 6 (focus (simp [go_sem,simprocAttr,ag,hb,an];done)));simp only [go_sem,simprocAttr,ag,hb,an,List.map_cons,List.map_nil]));try simp only [go_sem,simprocAttr,ag,hb,an])|(intro h))
 have hb:decide ((k:Int)<((gM p.ord).length:Int))=false:=decide_eq_false (by omega)
 repeat' (first|((first|((with_reducible (first|apply oA|apply oB));exact rfl;intro K hK)|(refine hK _ ?_;clear hK K)|((with_reducible (first|apply oG|apply oH));iterate 3 exact rfl)|((with_reducible apply oI);(iterate 2 exact rfl);intro K hK)|(with_reducible (first|apply wI|apply wJ|apply wK)));try simp only [go_sem,simprocAttr,ag,hb])|(with_reducible (first|apply oC|apply oJ|exact oK|apply wA|apply wB|apply wC hX hC|apply wD hX hC|apply wE hX hC af|apply wF hX hC af|apply wG|apply wH|apply And.intro))|((with_reducible refine oD ?_ ?_);kernel_rfl)|((with_reducible (first|apply oE|apply oF));(iterate 3 exact rfl);all_goals (intro h;first|(exact absurd h (by decide))|((try simp only [go_sem,simprocAttr,ag,hb] at h);(try with_reducible intro K hK);simp only [go_sem,simprocAttr,ag,hb])))|((first|((with_reducible apply wL);exact rfl)|((with_reducible apply wM);exact rfl));all_goals (try ((with_reducible intro h);first|(exact absurd h (by decide))|(try simp only [go_sem,simprocAttr,ag,hb] at h))))|omega|((first|(refine aA hX hC hP [(10000,31)] (cy p.ord) rfl rfl rfl ?_ ?_ ?_ ?_ ?_ ?_ ?_ ?_ ?_ ?_ ?_ ?_ ?_ ?_;(focus (simp only [go_sem,simprocAttr,ag,hb];done));(iterate 12 (focus (simp [go_sem,simprocAttr,ag,hb];done)));simp only [go_sem,simprocAttr,ag,hb,List.map_cons,List.map_nil])|(refine aE hX hC hP [(10000,31)] (bV p.ord ho) rfl rfl rfl ?_ ?_ ?_ ?_ ?_ ?_ rfl rfl ?_ ?_;(focus (simp only [go_sem,simprocAttr,ag,hb];done));(iterate 6 (focus (simp [go_sem,simprocAttr,ag,hb];done)));simp only [go_sem,simprocAttr,ag,hb,List.map_cons,List.map_nil]));try simp only [go_sem,simprocAttr,ag,hb])|(intro h))
 obtain rfl:k=(gM p.ord).length:=by omega
 clear hb hk
 refine aj (fun x:Nat=>x≤p.outs.length∧∀i:Nat,i<x→gM (p.outs.getD i [])=bp (·.1) g i) (fun x=>⟨[(0, .d (vw g)),(44, .d (.sl 1 (vI p.outs))),(45,eN p.outs.length),(46,eN x)], []⟩) (fun x=>p.outs.length - x) 0 (by simp) ?_ ?_
 ·refine Le.of ?_ ?_<;>simp [go_sem,simprocAttr,ag]
 rintro x ⟨hx,sJ⟩
 rcases Nat.lt_or_ge x p.outs.length with hxl|Dk
 ·have hb:decide ((x:Int)<(p.outs.length:Int))=true:=decide_eq_true (by omega)
  have hv:=lF hxl
  have hl:=hp.each _ (bS (d:= []) hxl)
  have hn2:∀h:gM (p.outs.getD x [])=bp (·.1) g x,∀i:Nat,i<x+1→gM (p.outs.getD i [])=bp (·.1) g i:=fun h i hi=>by
   by_cases Mf:i=x
   ·subst Mf;exact h
   ·exact sJ i (by omega)
  have sq:¬gM (p.outs.getD x [])=bp (·.1) g x→res=false:=fun h=>by
   rw [← Bool.not_eq_true,hr]
   rintro ⟨_,_,_,h4⟩
   exact h (h4 x hxl)
  generalize p.outs.getD x []=l at hv hl hn2 sq
  have Mg:=eP l
  by_cases he:gM l=bp (·.1) g x
  ·have an:decide (gM l=bp (·.1) g (x:Int))=true:=decide_eq_true he
   repeat' (first|((first|((with_reducible (first|apply oA|apply oB));exact rfl;intro K hK)|(refine hK _ ?_;clear hK K)|((with_reducible (first|apply oG|apply oH));iterate 3 exact rfl)|((with_reducible apply oI);(iterate 2 exact rfl);intro K hK)|(with_reducible (first|apply wI|apply wJ|apply wK)));try simp only [go_sem,simprocAttr,hb,hv,an])|(with_reducible (first|apply oC|apply oJ|exact oK|apply wA|apply wB|apply wC hX hC|apply wD hX hC|apply wE hX hC af|apply wF hX hC af|apply wG|apply wH|apply And.intro))|((with_reducible refine oD ?_ ?_);kernel_rfl)|((with_reducible (first|apply oE|apply oF));(iterate 3 exact rfl);all_goals (intro h;first|(exact absurd h (by decide))|((try simp only [go_sem,simprocAttr,hb,hv,an] at h);(try with_reducible intro K hK);simp only [go_sem,simprocAttr,hb,hv,an])))|((first|((with_reducible apply wL);exact rfl)|((with_reducible apply wM);exact rfl));all_goals (try ((with_reducible intro h);first|(exact absurd h (by decide))|(try simp only [go_sem,simprocAttr,hb,hv,an] at h))))|omega|((first|(refine aA hX hC hP [(10000,52)] (cy l) rfl rfl rfl ?_ ?_ ?_ ?_ ?_ ?_ ?_ ?_ ?_ ?_ ?_ ?_ ?_ ?_;(focus (simp only [go_sem,simprocAttr,hb,hv,an];done));(iterate 12 (focus (simp [go_sem,simprocAttr,hb,hv,an];done)));simp only [go_sem,simprocAttr,hb,hv,an,List.map_cons,List.map_nil])|(refine aE hX hC hP [(10000,52)] (bV l hl) rfl rfl rfl ?_ ?_ ?_ ?_ ?_ ?_ rfl rfl ?_ ?_;(focus (simp only [go_sem,simprocAttr,hb,hv,an];done));(iterate 6 (focus (simp [go_sem,simprocAttr,hb,hv,an];done)));simp only [go_sem,simprocAttr,hb,hv,an,List.map_cons,List.map_nil])|refine aa hX hC hP (iq g hm (x:Int)) rfl rfl rfl (by simp only [go_sem,simprocAttr,hb,hv,an]) rfl ?_|refine aa hX hC hP (fm (gM l) (bp (·.1) g x) (by omega)) rfl rfl rfl (by simp only [go_sem,simprocAttr,hb,hv,an]) rfl ?_);try simp only [go_sem,simprocAttr,hb,hv,an])|(intro h))
   refine ⟨x+1,⟨by omega,hn2 he⟩, ?_,by omega⟩
   (refine Le.of ?_ ?_<;>simp [go_sem,simprocAttr,hb,hv,an])
  ·have an:decide (gM l=bp (·.1) g (x:Int))=false:=decide_eq_false he
   have hres:=sq he
   subst hres
   repeat' (first|((first|((with_reducible (first|apply oA|apply oB));exact rfl;intro K hK)|(refine hK _ ?_;clear hK K)|((with_reducible (first|apply oG|apply oH));iterate 3 exact rfl)|((with_reducible apply oI);(iterate 2 exact rfl);intro K hK)|(with_reducible (first|apply wI|apply wJ|apply wK)));try simp only [go_sem,simprocAttr,hb,hv,an])|(with_reducible (first|apply oC|apply oJ|exact oK|apply wA|apply wB|apply wC hX hC|apply wD hX hC|apply wE hX hC af|apply wF hX hC af|apply wG|apply wH|apply And.intro))|((with_reducible refine oD ?_ ?_);kernel_rfl)|((with_reducible (first|apply oE|apply oF));(iterate 3 exact rfl);all_goals (intro h;first|(exact absurd h (by decide))|((try simp only [go_sem,simprocAttr,hb,hv,an] at h);(try with_reducible intro K hK);simp only [go_sem,simprocAttr,hb,hv,an])))|((first|((with_reducible apply wL);exact rfl)|((with_reducible apply wM);exact rfl));all_goals (try ((with_reducible intro h);first|(exact absurd h (by decide))|(try simp only [go_sem,simprocAttr,hb,hv,an] at h))))|omega|((first|(refine aA hX hC hP [(10000,52)] (cy l) rfl rfl rfl ?_ ?_ ?_ ?_ ?_ ?_ ?_ ?_ ?_ ?_ ?_ ?_ ?_ ?_;(focus (simp only [go_sem,simprocAttr,hb,hv,an];done));(iterate 12 (focus (simp [go_sem,simprocAttr,hb,hv,an];done)));simp only [go_sem,simprocAttr,hb,hv,an,List.map_cons,List.map_nil])|(refine aE hX hC hP [(10000,52)] (bV l hl) rfl rfl rfl ?_ ?_ ?_ ?_ ?_ ?_ rfl rfl ?_ ?_;(focus (simp only [go_sem,simprocAttr,hb,hv,an];done));(iterate 6 (focus (simp [go_sem,simprocAttr,hb,hv,an];done)));simp only [go_sem,simprocAttr,hb,hv,an,List.map_cons,List.map_nil])|refine aa hX hC hP (iq g hm (x:Int)) rfl rfl rfl (by simp only [go_sem,simprocAttr,hb,hv,an]) rfl ?_|refine aa hX hC hP (fm (gM l) (bp (·.1) g x) (by omega)) rfl rfl rfl (by simp only [go_sem,simprocAttr,hb,hv,an]) rfl ?_);try simp only [go_sem,simprocAttr,hb,hv,an])|(intro h))
 ·have hb:decide ((x:Int)<(p.outs.length:Int))=false:=decide_eq_false (by omega)
  obtain rfl:x=p.outs.length:=by omega
  have hres:res=true:=hr.2 ⟨h1.1,h1.2,fun i hi=>hg i (by omega),sJ⟩
  subst hres
  repeat' (first|((first|((with_reducible (first|apply oA|apply oB));exact rfl;intro K hK)|(refine hK _ ?_;clear hK K)|((with_reducible (first|apply oG|apply oH));iterate 3 exact rfl)|((with_reducible apply oI);(iterate 2 exact rfl);intro K hK)|(with_reducible (first|apply wI|apply wJ|apply wK)));try simp only [go_sem,simprocAttr,hb])|(with_reducible (first|apply oC|apply oJ|exact oK|apply wA|apply wB|apply wC hX hC|apply wD hX hC|apply wE hX hC af|apply wF hX hC af|apply wG|apply wH|apply And.intro))|((with_reducible refine oD ?_ ?_);kernel_rfl)|((with_reducible (first|apply oE|apply oF));(iterate 3 exact rfl);all_goals (intro h;first|(exact absurd h (by decide))|((try simp only [go_sem,simprocAttr,hb] at h);(try with_reducible intro K hK);simp only [go_sem,simprocAttr,hb])))|((first|((with_reducible apply wL);exact rfl)|((with_reducible apply wM);exact rfl));all_goals (try ((with_reducible intro h);first|(exact absurd h (by decide))|(try simp only [go_sem,simprocAttr,hb] at h))))|omega|((first|(refine aA hX hC hP [(10000,52)] (cy l) rfl rfl rfl ?_ ?_ ?_ ?_ ?_ ?_ ?_ ?_ ?_ ?_ ?_ ?_ ?_ ?_;(focus (simp only [go_sem,simprocAttr,hb];done));(iterate 12 (focus (simp [go_sem,simprocAttr,hb];done)));simp only [go_sem,simprocAttr,hb,List.map_cons,List.map_nil])|(refine aE hX hC hP [(10000,52)] (bV l hl) rfl rfl rfl ?_ ?_ ?_ ?_ ?_ ?_ rfl rfl ?_ ?_;(focus (simp only [go_sem,simprocAttr,hb];done));(iterate 6 (focus (simp [go_sem,simprocAttr,hb];done)));simp only [go_sem,simprocAttr,hb,List.map_cons,List.map_nil])|refine aa hX hC hP (iq g hm (x:Int)) rfl rfl rfl (by simp only [go_sem,simprocAttr,hb]) rfl ?_|refine aa hX hC hP (fm (gM l) (bp (·.1) g x) (by omega)) rfl rfl rfl (by simp only [go_sem,simprocAttr,hb]) rfl ?_);try simp only [go_sem,simprocAttr,hb])|(intro h))
end Go.Ab
end
